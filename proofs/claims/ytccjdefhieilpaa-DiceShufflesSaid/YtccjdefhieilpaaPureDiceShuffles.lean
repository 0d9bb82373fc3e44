/-
  Written by hand: both ways of shuffling come to the same row, in which each number stands once.
-/
import Derived.Test.YtccjdefhieilpaaPVx2
import Derived.Test.YtccjdefhieilpaaPVx3
import Derived.Test.YtccjdefhieilpaaPDx3
import Derived.Test.YtccjdefhieilpaaDicePure
set_option linter.unusedVariables false
namespace Go.Proofs.Ytccjdefhieilpaa.Spec
open Go.RowKit Go.Proofs.YtccjdefhieilpaaW.PrintWords Go.Proofs.YtccjdefhieilpaaW.PrintLast Go.Proofs.YtccjdefhieilpaaW.PrintMore
def fillL : List Int → Nat → Nat → List Int
  | l, _, 0 => l
  | l, i, d + 1 => fillL (l.set i (i : Int)) (i + 1) d
def swapL (l : List Int) (a b : Nat) : List Int := (l.set a (rd l (b : Int))).set b (rd l (a : Int))
def swaps : Nat → List Int → Nat → List Int × Nat
  | 0, l, s => (l, s)
  | i + 1, l, s => swaps i (swapL l (i + 1) (belowV s (i + 2))) (nextS s)
theorem rd_set (l : List Int) (a j : Nat) (x : Int) (ha : a < l.length) : rd (l.set a x) (j : Int) = if a = j then x else rd l (j : Int) := by
  show (l.set a x).getD j 0 = if a = j then x else l.getD j 0
  rw [List.getD_eq_getElem?_getD, List.getD_eq_getElem?_getD]
  by_cases h : a = j
  · subst h
    simp [ha]
  · simp [h]
theorem swapL_len (l : List Int) (a b : Nat) : (swapL l a b).length = l.length := by simp [swapL]
theorem rd_swap (l : List Int) (a b j : Nat) (ha : a < l.length) (hb : b < l.length) :
    rd (swapL l a b) (j : Int) = rd l (((if b = j then a else if a = j then b else j) : Nat) : Int) := by
  unfold swapL
  rw [rd_set _ _ _ _ (by simpa using hb), rd_set _ _ _ _ ha]
  split
  · rfl
  · split <;> rfl
structure ShufGood (l : List Int) (n : Nat) : Prop where
  len : l.length = n
  range : ∀ j, j < n → 0 ≤ rd l (j : Int) ∧ rd l (j : Int) < (n : Int)
  inj : ∀ i j, i < n → j < n → rd l (i : Int) = rd l (j : Int) → i = j
theorem ShufGood.swap {l : List Int} {n : Nat} (h : ShufGood l n) (a b : Nat) (ha : a < n) (hb : b < n) : ShufGood (swapL l a b) n := by
  have hl := h.len
  refine ⟨(swapL_len l a b).trans hl, fun j hj => ?_, fun i j hi hj e => ?_⟩
  · rw [rd_swap l a b j (by omega) (by omega)]
    exact h.range _ (by split <;> (try split) <;> omega)
  · rw [rd_swap l a b i (by omega) (by omega), rd_swap l a b j (by omega) (by omega)] at e
    have := h.inj _ _ (by split <;> (try split) <;> omega) (by split <;> (try split) <;> omega) e
    split at this <;> split at this <;> (try split at this) <;> (try split at this) <;> omega
theorem ShufGood.swaps {n : Nat} : ∀ (i : Nat) (l : List Int) (s : Nat), ShufGood l n → i < n → ShufGood (swaps i l s).1 n
  | 0, l, s, h, _ => h
  | i + 1, l, s, h, hi => by
    unfold Spec.swaps
    have hb : belowV s (i + 2) < i + 2 := Nat.mod_lt _ (by omega)
    exact ShufGood.swaps i _ _ (h.swap (i + 1) _ hi (by omega)) (by omega)
theorem fillL_good (n : Nat) : ∀ (d i : Nat) (l : List Int), i + d = n → l.length = n → (∀ j, j < i → rd l (j : Int) = (j : Int)) → ShufGood (fillL l i d) n
  | 0, i, l, hi, hl, h => by
    show ShufGood l n
    exact ⟨hl, fun j hj => by rw [h j (by omega)]; omega, fun a b ha hb e => by rw [h a (by omega), h b (by omega)] at e; omega⟩
  | d + 1, i, l, hi, hl, h => by
    unfold fillL
    refine fillL_good n d (i + 1) _ (by omega) (by simpa using hl) fun j hj => ?_
    rw [rd_set l i j _ (by omega)]
    split
    · rename_i e
      rw [e]
    · exact h j (by omega)
end Go.Proofs.Ytccjdefhieilpaa.Spec
namespace Go.Proofs.Ytccjdefhieilpaa.Pure
open Go.RowKit Go.Proofs.Ytccjdefhieilpaa.PB Go.Proofs.Ytccjdefhieilpaa.PD Go.Proofs.Ytccjdefhieilpaa.PV Go.Proofs.YtccjdefhieilpaaW.PrintWords Go.Proofs.YtccjdefhieilpaaW.PrintLast Go.Proofs.YtccjdefhieilpaaW.PrintMore

/-! the reference's throw, and a row against itself (as in PureDiceTells and ReadPure, which this text does not import: a claim holds at most 60 files) -/
theorem shuf_rnext (s : Nat) : horariumref08_Next.f (s : Int) = some ((Spec.mixN (Spec.nextS s) : Int), (Spec.nextS s : Int)) := by
  unfold horariumref08_Next.f
  rw [next_wrap, rmix_eq _ (nextS_lt s), Option.bind_some]
theorem shuf_rbelow (s : Nat) (n : Int) : horariumref08_Below.f (s : Int) n = dice_Below.f (s : Int) n := by
  unfold horariumref08_Below.f dice_Below.f
  rw [shuf_rnext, next_eq]
theorem shuf_ints (l : List Int) (hn : l.length ≤ 1000000) (k : Nat) (hk : l.length + 1 ≤ k) : horariumref03_Ints.f k l l = some true := by
  have key : ∀ (d i k : Nat), i + d = l.length → d + 1 ≤ k → horariumref03_Ints.l0 k l l (i : Int) = some true := by
    intro d
    induction d with
    | zero =>
      intro i k hi hk
      obtain ⟨k, rfl⟩ : ∃ j, k = j + 1 := ⟨k - 1, by omega⟩
      rw [horariumref03_Ints.l0, if_neg (by omega)]
    | succ d ih =>
      intro i k hi hk
      obtain ⟨k, rfl⟩ : ∃ j, k = j + 1 := ⟨k - 1, by omega⟩
      rw [horariumref03_Ints.l0, if_pos (by omega), if_pos (by omega), if_pos (by omega), if_pos rfl, wrap_succ (n := l.length) (by omega) (by omega)]
      exact ih (i + 1) k (by omega) (by omega)
  unfold horariumref03_Ints.f
  rw [if_pos rfl]
  exact key l.length 0 k (by omega) hk
theorem shuf_l1 (n : Nat) (hn : n ≤ 10000) : ∀ (i s k : Nat) (l : List Int), l.length = n → i < n → i + 1 ≤ k →
    dice_Shuffle.l1 k l (i : Int) (s : Int) = some ((Spec.swaps i l s).1, ((Spec.swaps i l s).2 : Int)) := by
  intro i
  induction i with
  | zero =>
    intro s k l hl hi hk
    obtain ⟨k, rfl⟩ : ∃ j, k = j + 1 := ⟨k - 1, by omega⟩
    rw [dice_Shuffle.l1, if_neg (by omega)]
    unfold Spec.swaps
    rfl
  | succ i ih =>
    intro s k l hl hi hk
    obtain ⟨k, rfl⟩ : ∃ j, k = j + 1 := ⟨k - 1, by omega⟩
    have hb : Spec.belowV s (i + 2) < i + 2 := Nat.mod_lt _ (by omega)
    have e1 : wrap64 (((i + 1 : Nat) : Int) + 1) = ((i + 2 : Nat) : Int) := by unfold wrap64; omega
    have e2 : wrap64 (((i + 1 : Nat) : Int) - 1) = (i : Int) := by unfold wrap64; omega
    have hh := ih (Spec.nextS s) k (Spec.swapL l (i + 1) (Spec.belowV s (i + 2))) ((Spec.swapL_len _ _ _).trans hl) (by omega) (by omega)
    have hbe := below_eq s (i + 2) (by omega) (by omega)
    unfold Spec.swaps
    generalize Spec.belowV s (i + 2) = b at *
    generalize Spec.nextS s = t at *
    rw [dice_Shuffle.l1, if_pos (by omega), e1, hbe, Option.bind_some, if_pos (by show (0 : Int) ≤ (b : Int); omega), if_pos (by show (b : Int) < (l.length : Int); omega), if_pos (by omega), if_pos (by omega), e2]
    unfold Spec.swapL at hh ⊢
    show dice_Shuffle.l1 k ((l.set ((i + 1 : Nat) : Int).toNat (rd l (b : Int))).set (b : Int).toNat (rd l ((i + 1 : Nat) : Int))) (i : Int) (t : Int) = _
    rw [Int.toNat_natCast, Int.toNat_natCast]
    exact hh
theorem rshuf_l1 (n : Nat) (hn : n ≤ 10000) : ∀ (i s k : Nat) (l : List Int), l.length = n → i < n → i + 1 ≤ k →
    horariumref08_Shuffle.l1 k l (i : Int) (s : Int) = some ((Spec.swaps i l s).1, ((Spec.swaps i l s).2 : Int)) := by
  intro i
  induction i with
  | zero =>
    intro s k l hl hi hk
    obtain ⟨k, rfl⟩ : ∃ j, k = j + 1 := ⟨k - 1, by omega⟩
    rw [horariumref08_Shuffle.l1, if_neg (by omega)]
    unfold Spec.swaps
    rfl
  | succ i ih =>
    intro s k l hl hi hk
    obtain ⟨k, rfl⟩ : ∃ j, k = j + 1 := ⟨k - 1, by omega⟩
    have hb : Spec.belowV s (i + 2) < i + 2 := Nat.mod_lt _ (by omega)
    have e1 : wrap64 (((i + 1 : Nat) : Int) + 1) = ((i + 2 : Nat) : Int) := by unfold wrap64; omega
    have e2 : wrap64 (((i + 1 : Nat) : Int) - 1) = (i : Int) := by unfold wrap64; omega
    have hh := ih (Spec.nextS s) k (Spec.swapL l (i + 1) (Spec.belowV s (i + 2))) ((Spec.swapL_len _ _ _).trans hl) (by omega) (by omega)
    have hbe := below_eq s (i + 2) (by omega) (by omega)
    unfold Spec.swaps
    rw [horariumref08_Shuffle.l1, if_pos (by omega), e1, shuf_rbelow, hbe, Option.bind_some]
    generalize Spec.belowV s (i + 2) = b at *
    generalize Spec.nextS s = t at *
    rw [if_pos (by omega), if_pos (by omega), if_pos (by show (0 : Int) ≤ (b : Int); omega), if_pos (by show (b : Int) < (l.length : Int); omega), e2]
    unfold Spec.swapL at hh ⊢
    show horariumref08_Shuffle.l1 k ((l.set ((i + 1 : Nat) : Int).toNat (rd l (b : Int))).set (b : Int).toNat (rd l ((i + 1 : Nat) : Int))) (i : Int) (t : Int) = _
    rw [Int.toNat_natCast, Int.toNat_natCast]
    exact hh
theorem shuf_l0 (n s : Nat) (hn : n ≤ 10000) (hp : 0 < n) (d : Nat) : ∀ (i k : Nat) (l : List Int), l.length = n → i + d = n → d + n + 1 ≤ k →
    dice_Shuffle.l0 k (n : Int) l (n : Int) (i : Int) (s : Int) = some ((Spec.swaps (n - 1) (Spec.fillL l i d) s).1, ((Spec.swaps (n - 1) (Spec.fillL l i d) s).2 : Int)) := by
  have e2 : wrap64 ((n : Int) - 1) = ((n - 1 : Nat) : Int) := by unfold wrap64; omega
  induction d with
  | zero =>
    intro i k l hl hi hk
    obtain ⟨k, rfl⟩ : ∃ j, k = j + 1 := ⟨k - 1, by omega⟩
    rw [dice_Shuffle.l0, if_neg (by omega), e2]
    exact shuf_l1 n hn (n - 1) s k l hl (by omega) (by omega)
  | succ d ih =>
    intro i k l hl hi hk
    obtain ⟨k, rfl⟩ : ∃ j, k = j + 1 := ⟨k - 1, by omega⟩
    rw [dice_Shuffle.l0, if_pos (by omega), if_pos (by omega), if_pos (by omega), wrap_succ (n := n) (by omega) (by omega)]
    exact ih (i + 1) k (l.set i (i : Int)) (by simpa using hl) (by omega) (by omega)
theorem rshuf_l0 (n s : Nat) (hn : n ≤ 10000) (hp : 0 < n) (d : Nat) : ∀ (i k : Nat) (l : List Int), l.length = n → i + d = n → d + n + 1 ≤ k →
    horariumref08_Shuffle.l0 k (n : Int) l (i : Int) (s : Int) = some ((Spec.swaps (n - 1) (Spec.fillL l i d) s).1, ((Spec.swaps (n - 1) (Spec.fillL l i d) s).2 : Int)) := by
  have e2 : wrap64 ((n : Int) - 1) = ((n - 1 : Nat) : Int) := by unfold wrap64; omega
  induction d with
  | zero =>
    intro i k l hl hi hk
    obtain ⟨k, rfl⟩ : ∃ j, k = j + 1 := ⟨k - 1, by omega⟩
    rw [horariumref08_Shuffle.l0, if_neg (by omega), e2]
    exact rshuf_l1 n hn (n - 1) s k l hl (by omega) (by omega)
  | succ d ih =>
    intro i k l hl hi hk
    obtain ⟨k, rfl⟩ : ∃ j, k = j + 1 := ⟨k - 1, by omega⟩
    rw [horariumref08_Shuffle.l0, if_pos (by omega), if_pos (by omega), if_pos (by omega), wrap_succ (n := n) (by omega) (by omega)]
    exact ih (i + 1) k (l.set i (i : Int)) (by simpa using hl) (by omega) (by omega)
def shufV (n s : Nat) : List Int × Nat := Spec.swaps (n - 1) (Spec.fillL (List.replicate n 0) 0 n) s
theorem shuf_eq (n s k : Nat) (hn : n ≤ 10000) (hp : 0 < n) (hk : 2 * n + 2 ≤ k) : dice_Shuffle.f k (s : Int) (n : Int) = some ((shufV n s).1, ((shufV n s).2 : Int)) := by
  obtain ⟨k, rfl⟩ : ∃ j, k = j + 1 := ⟨k - 1, by omega⟩
  have h := shuf_l0 n s hn hp n 0 k (List.replicate n 0) (by simp) (by omega) (by omega)
  unfold dice_Shuffle.f
  rw [if_neg (by omega), decide_eq_false (by omega), dice_Shuffle.j0, if_neg (by simp), if_pos (by omega), if_pos (by omega), Option.bind_some, Int.toNat_natCast, List.length_replicate]
  rw [Int.natCast_zero] at h
  exact h
theorem rshuf_eq (n s k : Nat) (hn : n ≤ 10000) (hp : 0 < n) (hk : 2 * n + 2 ≤ k) : horariumref08_Shuffle.f k (s : Int) (n : Int) = some ((shufV n s).1, ((shufV n s).2 : Int)) := by
  obtain ⟨k, rfl⟩ : ∃ j, k = j + 1 := ⟨k - 1, by omega⟩
  have h := rshuf_l0 n s hn hp n 0 k (List.replicate n 0) (by simp) (by omega) (by omega)
  unfold horariumref08_Shuffle.f
  rw [if_neg (by omega), decide_eq_false (by omega), horariumref08_Shuffle.j0, if_neg (by simp), if_pos (by omega), if_pos (by omega), Int.toNat_natCast]
  rw [Int.natCast_zero] at h
  exact h
theorem seen_l0 (l : List Int) (n : Nat) (hn : n ≤ 10000) (g : Spec.ShufGood l n) (d : Nat) : ∀ (i k : Nat) (m : List Bool), m.length = n → i + d = n →
    (∀ v, v < n → rdOf false m (v : Int) = true → ∃ j, j < i ∧ rd l (j : Int) = (v : Int)) → d + 101 ≤ k → horariumlaw08_DiceShuffles.l0 k l m (i : Int) = some true := by
  have hl := g.len
  induction d with
  | zero =>
    intro i k m hm hi hs hk
    obtain ⟨k, rfl⟩ : ∃ j, k = j + 1 := ⟨k - 1, by omega⟩
    rw [horariumlaw08_DiceShuffles.l0, if_neg (by omega), heads08_eq k (by omega), Option.bind_some]
  | succ d ih =>
    intro i k m hm hi hs hk
    obtain ⟨k, rfl⟩ : ∃ j, k = j + 1 := ⟨k - 1, by omega⟩
    obtain ⟨h1, h2⟩ := g.range i (by omega)
    obtain ⟨v, hv⟩ := Int.eq_ofNat_of_zero_le h1
    have hv2 : v < n := by omega
    have hf : ¬ rdOf false m (v : Int) = true := by
      intro h
      obtain ⟨j, hj, e⟩ := hs v hv2 h
      have := g.inj j i (by omega) (by omega) (e.trans hv.symm)
      omega
    rw [horariumlaw08_DiceShuffles.l0, if_pos (by omega), if_pos (by omega), hv, if_neg (by omega), if_neg (by omega), if_pos (by omega), if_pos (by omega), if_neg hf, wrap_succ (n := n) (by omega) (by omega)]
    refine ih (i + 1) k _ (by simpa using hm) (by omega) (fun u hu h => ?_) (by omega)
    by_cases e : v = u
    · subst e
      exact ⟨i, by omega, hv⟩
    · have h' : rdOf false m (u : Int) = true := by
        have h0 : (m.set v true).getD u false = true := h
        show m.getD u false = true
        rw [List.getD_eq_getElem?_getD, List.getElem?_set, if_neg e] at h0
        rw [List.getD_eq_getElem?_getD]
        exact h0
      obtain ⟨j, hj, e2⟩ := hs u hu h'
      exact ⟨j, by omega, e2⟩
theorem shuf_good (n s : Nat) (hp : 0 < n) : Spec.ShufGood (shufV n s).1 n := by
  unfold shufV
  exact Spec.ShufGood.swaps (n - 1) _ s (Spec.fillL_good n n 0 (List.replicate n 0) (by omega) (by simp) (fun j hj => by omega)) (by omega)
theorem shuf_out (k s : Nat) (n : Int) (hn : n < 0 ∨ n > 10000) (hk : 1 ≤ k) : dice_Shuffle.f k (s : Int) n = some ([], (s : Int)) ∧ horariumref08_Shuffle.f k (s : Int) n = some ([], (s : Int)) := by
  obtain ⟨k, rfl⟩ : ∃ j, k = j + 1 := ⟨k - 1, by omega⟩
  unfold dice_Shuffle.f horariumref08_Shuffle.f
  by_cases h : n < 0
  · rw [if_pos h, if_pos h, dice_Shuffle.j0, horariumref08_Shuffle.j0, if_pos rfl, if_pos rfl]
    exact ⟨rfl, rfl⟩
  · rw [if_neg h, if_neg h, decide_eq_true (show n > 10000 by omega), dice_Shuffle.j0, horariumref08_Shuffle.j0, if_pos rfl, if_pos rfl]
    exact ⟨rfl, rfl⟩
theorem shuf_zero1 (k s : Nat) : dice_Shuffle.f (k + 1 + 1 + 1) (s : Int) 0 = some ([], (s : Int)) := by
  have e : List.replicate (0 : Int).toNat (0 : Int) = [] := rfl
  have e2 : wrap64 ((0 : Int) - 1) = -1 := by unfold wrap64; omega
  unfold dice_Shuffle.f
  rw [if_neg (by omega), decide_eq_false (by omega), dice_Shuffle.j0, if_neg (by simp), if_pos (by omega), if_pos (by decide), e, Option.bind_some, dice_Shuffle.l0, if_neg (by simp), e2, dice_Shuffle.l1, if_neg (by omega)]
theorem shuf_zero2 (k s : Nat) : horariumref08_Shuffle.f (k + 1 + 1 + 1) (s : Int) 0 = some ([], (s : Int)) := by
  have e : List.replicate (0 : Int).toNat (0 : Int) = [] := rfl
  have e2 : wrap64 ((0 : Int) - 1) = -1 := by unfold wrap64; omega
  unfold horariumref08_Shuffle.f
  rw [if_neg (by omega), decide_eq_false (by omega), horariumref08_Shuffle.j0, if_neg (by simp), if_pos (by omega), if_pos (by decide), e, horariumref08_Shuffle.l0, if_neg (by omega), e2, horariumref08_Shuffle.l1, if_neg (by omega)]
theorem shuf_zero (k s : Nat) (hk : 4 ≤ k) : dice_Shuffle.f k (s : Int) 0 = some ([], (s : Int)) ∧ horariumref08_Shuffle.f k (s : Int) 0 = some ([], (s : Int)) := by
  obtain ⟨k, rfl⟩ : ∃ j, k = j + 1 + 1 + 1 := ⟨k - 3, by omega⟩
  exact ⟨shuf_zero1 k s, shuf_zero2 k s⟩
theorem shuffles_j1 (k : Nat) (l : List Int) (n : Nat) (hn : n ≤ 300) (g : Spec.ShufGood l n) (hk : n + 102 ≤ k) : horariumlaw08_DiceShuffles.j1 k l false = some true := by
  obtain ⟨k, rfl⟩ : ∃ j, k = j + 1 := ⟨k - 1, by omega⟩
  have hl := g.len
  have h := seen_l0 l n (by omega) g n 0 k (List.replicate n false) (by simp) (by omega) (fun v hv h => ?_) (by omega)
  · rw [Int.natCast_zero] at h
    rw [horariumlaw08_DiceShuffles.j1, if_neg (by simp), if_pos (by omega), if_pos (by omega), Int.toNat_natCast, hl]
    exact h
  · have h0 : (List.replicate n false).getD v false = true := h
    rw [List.getD_eq_getElem?_getD, List.getElem?_replicate, if_pos hv] at h0
    exact absurd h0 (by simp)
theorem shuffles_go (k a : Nat) (n : Int) (l : List Int) (t m : Nat) (h1 : dice_Shuffle.f k (a : Int) n = some (l, (t : Int))) (h2 : horariumref08_Shuffle.f k (a : Int) n = some (l, (t : Int)))
    (g : Spec.ShufGood l m) (hm : m ≤ 300) (hk : m + 102 ≤ k) : horariumlaw08_DiceShuffles.j0 (k + 1) n false (a : Int) = some true := by
  have hl := g.len
  have h3 := shuf_ints l (by omega) k (by omega)
  have h4 := shuffles_j1 k l m hm g hk
  rw [horariumlaw08_DiceShuffles.j0, if_neg (by simp), h1, Option.bind_some, h2, Option.bind_some, h3, Option.bind_some, if_pos rfl]
  show horariumlaw08_DiceShuffles.j1 k l (!((t : Int) == (t : Int))) = _
  rw [beq_self_eq_true]
  exact h4
theorem nil_good : Spec.ShufGood [] 0 := ⟨rfl, fun j hj => by omega, fun i j hi hj _ => by omega⟩
theorem shuffles_k (k a : Nat) (n : Int) (hk : 1000 ≤ k) : horariumlaw08_DiceShuffles.f (k + 1) (a : Int) n = some true := by
  unfold horariumlaw08_DiceShuffles.f
  by_cases h3 : n > 300
  · rw [if_pos h3]
    by_cases h4 : n ≤ 10000
    · have h8 := heads08_eq k (by omega)
      rw [decide_eq_true h4, horariumlaw08_DiceShuffles.j0, if_pos rfl, h8, Option.bind_some]
    · obtain ⟨e1, e2⟩ := shuf_out k a n (.inr (by omega)) (by omega)
      rw [decide_eq_false h4]
      exact shuffles_go k a n [] a 0 e1 e2 nil_good (by omega) (by omega)
  · rw [if_neg h3]
    by_cases h4 : n < 0
    · obtain ⟨e1, e2⟩ := shuf_out k a n (.inl h4) (by omega)
      exact shuffles_go k a n [] a 0 e1 e2 nil_good (by omega) (by omega)
    · obtain ⟨b, rfl⟩ := Int.eq_ofNat_of_zero_le (show 0 ≤ n by omega)
      rcases Nat.eq_zero_or_pos b with h0 | h0
      · subst h0
        obtain ⟨e1, e2⟩ := shuf_zero k a (by omega)
        rw [Int.natCast_zero]
        exact shuffles_go k a 0 [] a 0 e1 e2 nil_good (by omega) (by omega)
      · exact shuffles_go k a (b : Int) _ _ b (shuf_eq b a k (by omega) h0 (by omega)) (rshuf_eq b a k (by omega) h0 (by omega)) (shuf_good b a h0) (by omega) (by omega)
theorem DiceShuffles (s n : Int) (hs : (Lit.int .u64 s).wf = true) (hn : (Lit.int .i64 n).wf = true) : ∃ k, horariumlaw08_DiceShuffles.f k s n = some true := by
  obtain ⟨s1, s2⟩ := bounds_u64 hs
  obtain ⟨a, rfl⟩ := Int.eq_ofNat_of_zero_le s1
  exact ⟨1000 + 1, shuffles_k 1000 a n (Nat.le_refl 1000)⟩

end Go.Proofs.Ytccjdefhieilpaa.Pure
