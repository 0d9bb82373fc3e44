/-
  LogFrames: Frame, Size, Write and Same return the reference's results, for every input of the statement.
-/
import Derived.Test.YtccjdefhieilpaaPLx7
import Derived.Test.YtccjdefhieilpaaLogFew
import Derived.Test.YtccjdefhieilpaaLogRefB
namespace Go.Proofs.Ytccjdefhieilpaa.Pure
open Go.RowKit Go.Proofs.Ytccjdefhieilpaa.PB Go.Proofs.Ytccjdefhieilpaa.PL Go.Proofs.YtccjdefhieilpaaW.PrintWords Go.Proofs.YtccjdefhieilpaaW.PrintLast
theorem frames_loop (l m : List S68) (hl : Datas l) (hm : Datas m) (hn : l.length ≤ 40) (d : Nat) : ∀ (i k : Nat), i + d = l.length → 20000000 + d ≤ k → horariumlaw47_LogFrames.l0 k l m (i : Int) = some true := by
  induction d with
  | zero =>
    intro i k hi hk
    obtain ⟨k, rfl⟩ : ∃ j, k = j + 1 := ⟨k - 1, by omega⟩
    rw [horariumlaw47_LogFrames.l0, if_neg (by omega), write_eq k l hl (by omega) (by omega), Option.bind_some, rwrite_eq k l hl (by omega) (by omega), Option.bind_some, same_self, Option.bind_some, if_pos rfl, if_pos rfl,
      lsame_eq k l m hl hm (by omega) (by omega), Option.bind_some, rsame_eq k l m hl hm (by omega) (by omega), Option.bind_some, if_pos (beq_self_eq_true _), horariumlaw47_heads.eq k (by omega), Option.bind_some]
  | succ d ih =>
    intro i k hi hk
    obtain ⟨k, rfl⟩ : ∃ j, k = j + 1 := ⟨k - 1, by omega⟩
    have hb := hl _ (T68_mem l i (by omega))
    rw [horariumlaw47_LogFrames.l0, if_pos (by omega), if_pos (by omega), frame_eq k _ _ hb (by omega), Option.bind_some, rframe_eq k _ _ hb (by omega), Option.bind_some, same_self, Option.bind_some, if_pos rfl, if_pos rfl,
      psize_eq k _ _ (by omega), Option.bind_some, rsize_eq k _ _ hb (by omega), Option.bind_some, if_pos rfl, wrap_succ (n := l.length) (by omega) (by omega)]
    exact ih (i + 1) k (by omega) (by omega)
theorem LogFrames (l m : List S68) (hl : Datas l) (hm : Datas m) (nl : l.length ≤ 9223372036854775807) (nm : m.length ≤ 9223372036854775807) : ∃ k, horariumlaw47_LogFrames.f k l m = some true := by
  obtain ⟨k, hk⟩ : ∃ k, k = 20000100 + l.length + m.length := ⟨_, rfl⟩
  refine ⟨k + 1, ?_⟩
  obtain ⟨b, hb, hb'⟩ := few_some (k + 1) l nl (by omega)
  obtain ⟨c, hc, hc'⟩ := few_some (k + 1) m nm (by omega)
  have out : horariumlaw47_LogFrames.j0 (k + 1) l m true = some true := by
    rw [horariumlaw47_LogFrames.j0, if_pos rfl, horariumlaw47_heads.eq k (by omega), Option.bind_some]
  unfold horariumlaw47_LogFrames.f
  rw [hb, Option.bind_some]
  cases b with
  | false => rw [if_neg Bool.false_ne_true]; exact out
  | true =>
    rw [if_pos rfl, hc, Option.bind_some]
    cases c with
    | false => exact out
    | true =>
      have := hb' rfl
      rw [Bool.not_true, horariumlaw47_LogFrames.j0, if_neg Bool.false_ne_true]
      exact frames_loop l m hl hm (by omega) l.length 0 k (by omega) (by omega)
end Go.Proofs.Ytccjdefhieilpaa.Pure
