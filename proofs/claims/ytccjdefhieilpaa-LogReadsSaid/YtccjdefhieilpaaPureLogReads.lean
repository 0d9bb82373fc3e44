/-
  LogReads: Read returns the reference's entries and where they end, for every input of the statement.
-/
import Derived.Test.YtccjdefhieilpaaPLx9
import Derived.Test.YtccjdefhieilpaaLogRead
import Derived.Test.YtccjdefhieilpaaLogSame
namespace Go.Proofs.Ytccjdefhieilpaa.Pure
open Go.RowKit Go.Proofs.Ytccjdefhieilpaa.PB Go.Proofs.Ytccjdefhieilpaa.PL Go.Proofs.YtccjdefhieilpaaW.PrintWords Go.Proofs.YtccjdefhieilpaaW.PrintLast
theorem rsame_loop (l : List S68) (hn : l.length ≤ 140737488351232) (d : Nat) : ∀ (i k : Nat), i + d = l.length → d + 1 ≤ k → horariumref47_Same.l0 k l l (i : Int) = some true := by
  induction d with
  | zero =>
    intro i k hi hk
    obtain ⟨k, rfl⟩ : ∃ j, k = j + 1 := ⟨k - 1, by omega⟩
    rw [horariumref47_Same.l0, if_neg (by omega)]
  | succ d ih =>
    intro i k hi hk
    obtain ⟨k, rfl⟩ : ∃ j, k = j + 1 := ⟨k - 1, by omega⟩
    rw [horariumref47_Same.l0, if_pos (by omega), if_pos (by omega), if_pos (by omega), if_pos rfl, if_pos rfl, wrap_succ (n := l.length) (by omega) hn, ih (i + 1) k (by omega) (by omega)]
theorem rsame_self (k : Nat) (l : List S68) (hn : l.length ≤ 140737488351232) (hk : l.length + 2 ≤ k) : horariumref47_Same.f k l l = some true := by
  unfold horariumref47_Same.f
  rw [if_pos rfl]
  exact rsame_loop l hn l.length 0 k (by omega) (by omega)
theorem readL_len : ∀ (k : Nat) (f : List Int), Bytes f → (Spec.readL k f).1.length ≤ f.length
  | 0, f, _ => Nat.zero_le _
  | k + 1, f, hb => by
    by_cases hz : (Spec.nextL f).2.2 = 0
    · have hm := Spec.next_moves f hb hz
      have ih := readL_len k (f.drop (Spec.nextL f).2.1) (hb.drop _)
      rw [List.length_drop] at ih
      rw [Spec.readL_ok k f hz]
      show (Spec.readL k (f.drop (Spec.nextL f).2.1)).1.length + 1 ≤ f.length
      omega
    · rw [Spec.readL_err (k + 1) f hz]
      exact Nat.zero_le _
theorem readS_len (b : List Int) (hb : Bytes b) : (readS b).length ≤ b.length := by
  unfold readS
  rw [List.length_map]
  exact readL_len _ b hb
theorem LogReads : horariumlaw47_LogReads.Pure := by
  intro l0 hm hn hb
  have hb' := bytes_of_wf hb
  refine ⟨1500000, ?_⟩
  unfold horariumlaw47_LogReads.f
  by_cases h : l0.length > 130000
  · rw [if_pos (by omega), horariumlaw47_heads.eq 1500000 (by decide), Option.bind_some]
  · have hl := readS_len l0 hb'
    rw [if_neg (by omega), lread_eq 1500000 l0 hb' (by omega) (by omega), Option.bind_some, rread_eq 1500000 l0 hb' (by omega) (by omega), Option.bind_some, rsame_self 1500000 (readS l0) (by omega) (by omega), Option.bind_some, if_pos rfl, if_pos rfl,
      horariumlaw47_heads.eq 1500000 (by decide), Option.bind_some]
end Go.Proofs.Ytccjdefhieilpaa.Pure
