/-
  Written by hand: two rows of entries that a law keeps beside a vault.
-/
import Derived.Test.YtccjdefhieilpaaVB
namespace Go.Proofs.Ytccjdefhieilpaa.VT
open Go.RowKit Go.Proofs.YtccjdefhieilpaaW.PrintWords Go.Proofs.Ytccjdefhieilpaa.PB Go.Proofs.Ytccjdefhieilpaa.PL Go.Proofs.Ytccjdefhieilpaa.PG
set_option linter.unusedVariables false
/-- The rows vs, vt of the law's own; what their entries lead to lies in Q; nothing of it is the vault's or the device's (O). -/
structure Rows2 (n0 : Nat) (Q O : Nat → Prop) (w : World) (vs vt : Value) (s t : List S68) : Prop where
  old : ∀ k, k < n0 → Q k
  lt : ∀ k, Q k → k < w.heap.size
  off : ∀ k, Q k → ¬ O k
  olt : ∀ k, O k → k < w.heap.size
  ns : Kd.N k68 68 w n0 (fun k => Q k ∨ some k = vs.ownBlock) vs s
  nt : Kd.N k68 68 w n0 (fun k => Q k ∨ some k = vt.ownBlock) vt t
  qs : ∀ k, vs.ownBlock = some k → ¬ Q k ∧ ¬ O k
  qt : ∀ k, vt.ownBlock = some k → ¬ Q k ∧ ¬ O k ∧ vs.ownBlock ≠ some k
variable {n0 : Nat} {Q O O' : Nat → Prop} {w w' w1 W : World} {vs vt v1 : Value} {s t l : List S68} {e : S68}
theorem Rows2.went (h : Rows2 n0 Q O w vs vt s t) (hw : Went O w w') (hn : ∀ k, O' k → O k ∨ w.heap.size ≤ k) (hlt : ∀ k, O' k → k < w'.heap.size) : Rows2 n0 Q O' w' vs vt s t :=
  ⟨h.old, fun k hk => Nat.lt_of_lt_of_le (h.lt k hk) hw.kept.1, fun k hk ho => (hn k ho).elim (h.off k hk) (fun h1 => by have := h.lt k hk; omega), hlt,
    Kd.N_kept h.ns hw.kept (fun k hk => hk.elim (h.off k) (fun e => (h.qs k e.symm).2)), Kd.N_kept h.nt hw.kept (fun k hk => hk.elim (h.off k) (fun e => (h.qt k e.symm).2.1)),
    fun k hk => ⟨(h.qs k hk).1, fun ho => (hn k ho).elim (h.qs k hk).2 (fun h1 => by have := Kd.N_lt h.ns k hk; omega)⟩,
    fun k hk => ⟨(h.qt k hk).1, fun ho => (hn k ho).elim (h.qt k hk).2.1 (fun h1 => by have := Kd.N_lt h.nt k hk; omega), (h.qt k hk).2.2⟩⟩
theorem Rows2.below (h : Rows2 n0 Q O w vs vt s t) (hb : Below w.heap.size w w') : Rows2 n0 Q O w' vs vt s t := h.went (Went.of_below hb) (fun k hk => .inl hk) (fun k hk => Nat.lt_of_lt_of_le (h.olt k hk) hb.size)
theorem kept_grown {row : Option Nat} (hg : W.grownBy w1 row) (hs : W.heap.size ≤ w1.heap.size) : Kept W w1 (fun k => some k = row) := ⟨hs, fun k hk hn => hg.block k hk hn⟩
/-- An entry put behind the second row. -/
theorem Rows2.push (h : Rows2 n0 Q O W vs vt s t) (hn : Kd.N k68 68 w1 n0 (fun k => Q k ∨ some k = vt.ownBlock ∨ W.heap.size ≤ k) v1 l) (hg : W.grownBy w1 vt.ownBlock) (hsz : W.heap.size ≤ w1.heap.size) (hat : v1.ownBlock = vt.ownBlock ∨ ∃ b, v1.ownBlock = some b ∧ W.heap.size ≤ b) :
    ∃ Q', Rows2 n0 Q' O w1 vs v1 s l := by
  have hvs := Kd.N_lt h.ns
  have hvt := Kd.N_lt h.nt
  have hv1 : ∀ k, v1.ownBlock = some k → ¬ Q k ∧ ¬ O k ∧ vs.ownBlock ≠ some k := fun k hk => by
    rcases hat with e | ⟨b, e, hb⟩
    · exact h.qt k (e ▸ hk)
    · have : b = k := Option.some.inj (e.symm.trans hk)
      subst this
      exact ⟨fun hq => by have := h.lt b hq; omega, fun ho => by have := h.olt b ho; omega, fun e2 => by have := hvs b e2; omega⟩
  refine ⟨fun k => (Q k ∨ some k = vt.ownBlock ∨ (W.heap.size ≤ k ∧ k < w1.heap.size)) ∧ some k ≠ v1.ownBlock, ?_, ?_, ?_, ?_, ?_, ?_, ?_, ?_⟩
  · exact fun k hk => ⟨.inl (h.old k hk), fun e => by have := Kd.N_base hn k e.symm; omega⟩
  · rintro k ⟨hk | hk | hk, _⟩
    · exact Nat.lt_of_lt_of_le (h.lt k hk) hsz
    · exact Nat.lt_of_lt_of_le (hvt k hk.symm) hsz
    · exact hk.2
  · rintro k ⟨hk | hk | hk, _⟩ ho
    · exact h.off k hk ho
    · exact (h.qt k hk.symm).2.1 ho
    · have := h.olt k ho
      omega
  · exact fun k hk => Nat.lt_of_lt_of_le (h.olt k hk) hsz
  · refine Kd.N_mono (Kd.N_kept h.ns (kept_grown hg hsz) ?_) ?_
    · intro k hk e
      rcases hk with hk | hk
      · exact (h.qt k e.symm).1 hk
      · exact (h.qt k e.symm).2.2 hk.symm
    · intro k hk
      rcases hk with hk | hk
      · exact .inl ⟨.inl hk, fun e => (hv1 k e.symm).1 hk⟩
      · exact .inr hk
  · refine Kd.N_mono (Kd.N_bound hn) ?_
    rintro k ⟨hk, hlt⟩
    by_cases e : some k = v1.ownBlock
    · exact .inr e
    · exact .inl ⟨hk.imp id (fun h => h.imp id (fun h => ⟨h, hlt⟩)), e⟩
  · intro k hk
    refine ⟨?_, (h.qs k hk).2⟩
    rintro ⟨h1 | h1 | h1, _⟩
    · exact (h.qs k hk).1 h1
    · exact (h.qt k h1.symm).2.2 hk
    · have := hvs k hk
      omega
  · exact fun k hk => ⟨fun h1 => h1.2 hk.symm, (hv1 k hk).2⟩
/-- The second row put behind the first; the second is none then. -/
theorem Rows2.join (h : Rows2 n0 Q O W vs vt s t) (hn : Kd.N k68 68 w1 n0 (fun k => (Q k ∨ some k = vt.ownBlock) ∨ some k = vs.ownBlock ∨ W.heap.size ≤ k) v1 l) (hsz : W.heap.size ≤ w1.heap.size) (hat : v1.ownBlock = vs.ownBlock ∨ ∃ b, v1.ownBlock = some b ∧ W.heap.size ≤ b) :
    ∃ Q', Rows2 n0 Q' O w1 v1 (.slice none 0 0) l [] := by
  have hvs := Kd.N_lt h.ns
  have hvt := Kd.N_lt h.nt
  refine ⟨fun k => ((Q k ∨ some k = vt.ownBlock) ∨ some k = vs.ownBlock ∨ (W.heap.size ≤ k ∧ k < w1.heap.size)) ∧ some k ≠ v1.ownBlock, ?_, ?_, ?_, ?_, ?_, Kd.N_nil _ _ _ _ _, ?_, ?_⟩
  · exact fun k hk => ⟨.inl (.inl (h.old k hk)), fun e => by have := Kd.N_base hn k e.symm; omega⟩
  · rintro k ⟨(hk | hk) | hk | hk, _⟩
    · exact Nat.lt_of_lt_of_le (h.lt k hk) hsz
    · exact Nat.lt_of_lt_of_le (hvt k hk.symm) hsz
    · exact Nat.lt_of_lt_of_le (hvs k hk.symm) hsz
    · exact hk.2
  · rintro k ⟨(hk | hk) | hk | hk, _⟩ ho
    · exact h.off k hk ho
    · exact (h.qt k hk.symm).2.1 ho
    · exact (h.qs k hk.symm).2 ho
    · have := h.olt k ho
      omega
  · exact fun k hk => Nat.lt_of_lt_of_le (h.olt k hk) hsz
  · refine Kd.N_mono (Kd.N_bound hn) ?_
    rintro k ⟨hk, hlt⟩
    by_cases e : some k = v1.ownBlock
    · exact .inr e
    · exact .inl ⟨hk.imp id (fun h => h.imp id (fun h => ⟨h, hlt⟩)), e⟩
  · intro k hk
    refine ⟨fun h1 => h1.2 hk.symm, fun ho => ?_⟩
    rcases hat with e | ⟨b, e, hb⟩
    · exact (h.qs k (e ▸ hk)).2 ho
    · have : b = k := Option.some.inj (e.symm.trans hk)
      subst this
      have := h.olt b ho
      omega
  · intro k hk
    simp [Value.ownBlock] at hk
/-- A new first row; the second is none then. -/
theorem Rows2.anew (h : Rows2 n0 Q O w vs vt s t) (hs : w.heap.size ≤ w1.heap.size) {n1 : Nat} (h1 : w.heap.size ≤ n1) (hn0 : n0 ≤ n1) (hn : Kd.N k68 68 w1 n0 (fun k => n1 ≤ k) v1 l) (hO : ∀ k, O' k → k < n1 ∧ k < w1.heap.size) (hq : ∀ k, Q k → ¬ O' k) :
    ∃ Q', Rows2 n0 Q' O' w1 v1 (.slice none 0 0) l [] := by
  refine ⟨fun k => (Q k ∨ (n1 ≤ k ∧ k < w1.heap.size)) ∧ some k ≠ v1.ownBlock, ?_, ?_, ?_, fun k hk => (hO k hk).2, ?_, Kd.N_nil _ _ _ _ _, ?_, ?_⟩
  · exact fun k hk => ⟨.inl (h.old k hk), fun e => by have := Kd.N_base hn k e.symm; omega⟩
  · rintro k ⟨hk | hk, _⟩
    · exact Nat.lt_of_lt_of_le (h.lt k hk) hs
    · exact hk.2
  · rintro k ⟨hk | hk, _⟩ ho
    · exact hq k hk ho
    · have := (hO k ho).1
      omega
  · refine Kd.N_mono (Kd.N_bound hn) ?_
    rintro k ⟨hk, hlt⟩
    by_cases e : some k = v1.ownBlock
    · exact .inr e
    · exact .inl ⟨.inr ⟨hk, hlt⟩, e⟩
  · intro k hk
    refine ⟨fun h1 => h1.2 hk.symm, fun ho => ?_⟩
    have h2 := hn.1 k hk
    have h3 := (hO k ho).1
    omega
  · intro k hk
    simp [Value.ownBlock] at hk
theorem Rows2.start (w : World) (hO : ∀ k, O k → w.heap.size ≤ k) {w1 : World} (hs : w.heap.size ≤ w1.heap.size) (hlt : ∀ k, O k → k < w1.heap.size) : Rows2 w.heap.size (fun k => k < w.heap.size) O w1 (.slice none 0 0) (.slice none 0 0) [] [] :=
  ⟨fun k hk => hk, fun k hk => Nat.lt_of_lt_of_le hk hs, fun k hk ho => by have h1 := hO k ho; have h2 : k < w.heap.size := hk; omega, hlt, Kd.N_nil _ _ _ _ _, Kd.N_nil _ _ _ _ _, fun k hk => by simp [Value.ownBlock] at hk, fun k hk => by simp [Value.ownBlock] at hk⟩
end Go.Proofs.Ytccjdefhieilpaa.VT
