/-
  LogPrefix: what is read of what was written, torn anywhere, are its first entries, all whose frames are whole; what was written and something behind it begins with all of them: for every input of the statement.
-/
import Derived.Test.YtccjdefhieilpaaPLx12
import Derived.Test.YtccjdefhieilpaaLogFew
import Derived.Test.YtccjdefhieilpaaLogSame
namespace Go.Proofs.Ytccjdefhieilpaa.Pure
open Go.RowKit Go.Proofs.Ytccjdefhieilpaa.PB Go.Proofs.Ytccjdefhieilpaa.PL Go.Proofs.YtccjdefhieilpaaW.PrintWords Go.Proofs.YtccjdefhieilpaaW.PrintLast

theorem readL_none (k : Nat) (f : List Int) (h : (Spec.readL k f).1 = []) : (Spec.readL k f).2 = 0 := by
  cases k with
  | zero => rfl
  | succ k =>
    by_cases hz : (Spec.nextL f).2.2 = 0
    · rw [Spec.readL_ok k f hz] at h
      cases h
    · rw [Spec.readL_err (k + 1) f hz]
theorem readL_nil (k : Nat) : Spec.readL k [] = ([], 0) := Spec.readL_err k [] (by decide)
/-- Torn frames: the first whole ones are read. -/
theorem readL_torn : ∀ (l : List (Int × List Int)) (q k : Nat), (∀ e ∈ l, Spec.rightE e) → q ≤ (Spec.framesL l).length → ∃ w, w ≤ l.length ∧ Spec.readL (k + l.length) ((Spec.framesL l).take q) = (l.take w, (Spec.framesL (l.take w)).length) ∧
    (Spec.framesL (l.take w)).length ≤ q ∧ (w < l.length → q < (Spec.framesL (l.take (w + 1))).length)
  | [], q, k, _, hq => ⟨0, Nat.le_refl _, by
      rw [Spec.framesL_nil, List.take_nil]
      exact readL_nil _, Nat.zero_le _, fun h => absurd h (Nat.lt_irrefl _)⟩
  | e :: l, q, k, h, hq => by
    have he := h e (List.mem_cons_self ..)
    rw [Spec.framesL_cons] at hq ⊢
    by_cases hc : q < (Spec.frameL e).length
    · refine ⟨0, Nat.zero_le _, ?_, Nat.zero_le _, fun _ => ?_⟩
      · rw [List.take_append_of_le_length (by omega)]
        exact Spec.readL_cut _ e q he hc
      · show q < (Spec.framesL (e :: l.take 0)).length
        rw [Spec.framesL_cons, List.length_append]
        omega
    · rw [List.length_append] at hq
      obtain ⟨w, hw, hr, h1, h2⟩ := readL_torn l (q - (Spec.frameL e).length) k (fun x hx => h x (List.mem_cons_of_mem _ hx)) (by omega)
      refine ⟨w + 1, by rw [List.length_cons]; omega, ?_, ?_, fun hlt => ?_⟩
      · have et : (Spec.frameL e ++ Spec.framesL l).take q = Spec.framesL [e] ++ (Spec.framesL l).take (q - (Spec.frameL e).length) := by
          rw [List.take_append, List.take_of_length_le (by omega), Spec.framesL_cons, Spec.framesL_nil, List.append_nil]
        have hf := Spec.readL_frames [e] ((Spec.framesL l).take (q - (Spec.frameL e).length)) (k + l.length) (fun x hx => by
          rw [List.mem_singleton.1 hx]; exact he)
        rw [et, List.length_cons]
        refine hf.trans ?_
        rw [hr, List.take_succ_cons, Spec.framesL_cons, Spec.framesL_nil, List.append_nil, Spec.framesL_cons, List.length_append]
        rfl
      · rw [List.take_succ_cons, Spec.framesL_cons, List.length_append]
        omega
      · have := h2 (by rw [List.length_cons] at hlt; omega)
        rw [List.take_succ_cons, Spec.framesL_cons, List.length_append]
        omega
theorem framesS_bytes {l : List S68} (hr : Rights l) (hd : Datas l) : Bytes (framesS l) := by
  unfold framesS
  refine Spec.framesL_bytes fun e he => ?_
  obtain ⟨x, hx, rfl⟩ := List.mem_map.1 he
  exact ⟨hr x hx, hd x hx⟩
theorem rights_map {l : List S68} (hr : Rights l) : ∀ e ∈ l.map p68, Spec.rightE e := fun e he => by
  obtain ⟨x, hx, rfl⟩ := List.mem_map.1 he
  exact hr x hx
theorem map_sp (l : List S68) : (l.map p68).map s68 = l := by
  rw [List.map_map]
  exact List.map_id l
theorem readS_tail (l : List S68) (tail : List Int) (hr : Rights l) (hd : Datas l) (ht : Bytes tail) :
    ∃ (m : List S68) (e : Nat), readS (framesS l ++ tail) = l ++ m ∧ readN (framesS l ++ tail) = (framesS l).length + e ∧ (m = [] → e = 0) := by
  have hb := (framesS_bytes hr hd).append ht
  have hat := Spec.readL_at hb (k := (framesS l ++ tail).length + 1) (Nat.lt_succ_self _) l.length
  have hf := Spec.readL_frames (l.map p68) tail ((framesS l ++ tail).length + 1) (rights_map hr)
  rw [List.length_map] at hf
  have e := hat.symm.trans hf
  unfold readS readN
  rw [e]
  refine ⟨(Spec.readL ((framesS l ++ tail).length + 1) tail).1.map s68, (Spec.readL ((framesS l ++ tail).length + 1) tail).2, ?_, rfl, fun h => ?_⟩
  · show (l.map p68 ++ (Spec.readL ((framesS l ++ tail).length + 1) tail).1).map s68 = _
    rw [List.map_append, map_sp]
  · exact readL_none _ _ (List.map_eq_nil_iff.1 h)
theorem readS_torn (l : List S68) (q : Nat) (hr : Rights l) (hd : Datas l) (hq : q ≤ (framesS l).length) :
    ∃ w, w ≤ l.length ∧ readS ((framesS l).take q) = l.take w ∧ readN ((framesS l).take q) = (framesS (l.take w)).length ∧ (framesS (l.take w)).length ≤ q ∧ (w < l.length → q < (framesS (l.take (w + 1))).length) := by
  have hb := (framesS_bytes hr hd).take q
  have hat := Spec.readL_at hb (k := ((framesS l).take q).length + 1) (Nat.lt_succ_self _) l.length
  obtain ⟨w, hw, hrd, h1, h2⟩ := readL_torn (l.map p68) q (((framesS l).take q).length + 1) (rights_map hr) hq
  rw [List.length_map] at hrd hw h2
  have e := hat.symm.trans hrd
  have em : (l.map p68).take w = (l.take w).map p68 := List.map_take.symm
  have em1 : (l.map p68).take (w + 1) = (l.take (w + 1)).map p68 := List.map_take.symm
  rw [em] at e h1
  rw [em1] at h2
  refine ⟨w, hw, ?_, ?_, h1, h2⟩
  · unfold readS
    rw [e]
    exact map_sp _
  · unfold readN
    rw [e]
    rfl
theorem framesS_small : ∀ (l : List S68), Rights l → (framesS l).length ≤ l.length * 1048600
  | [], _ => Nat.zero_le _
  | x :: l, h => by
    have h1 := (Rights_cons x l).1 h
    have ih := framesS_small l h1.2
    have hs := frame_small x.f0 x.f1 h1.1
    have hs' : (Spec.frameL (p68 x)).length ≤ 1048600 := hs
    rw [framesS_cons, List.length_append, List.length_cons]
    omega
theorem framesS_take (l : List S68) (i : Nat) (h : i < l.length) : (framesS (l.take (i + 1))).length = (framesS (l.take i)).length + (Spec.frameL (p68 (rd_T68 l (i : Int)))).length := by
  have e : l.take (i + 1) = l.take i ++ [rd_T68 l (i : Int)] := by
    unfold rd_T68
    rw [Int.toNat_natCast, List.getD_eq_getElem?_getD, List.getElem?_eq_getElem h, List.take_add_one, List.getElem?_eq_getElem h]
    rfl
  rw [e, framesS_append, List.length_append]
  congr 1
  unfold framesS Spec.framesL
  simp
theorem wr_sum (a b : Nat) (h : a + b ≤ 140737488351232) : wrap64 ((a : Int) + (b : Int)) = ((a + b : Nat) : Int) := by
  unfold wrap64
  omega
theorem framesS_mono (l : List S68) {i j : Nat} (h : i ≤ j) : (framesS (l.take i)).length ≤ (framesS (l.take j)).length := by
  have e : l.take j = l.take i ++ (l.take j).drop i := by
    conv => lhs; rw [← List.take_append_drop i (l.take j)]
    rw [List.take_take, Nat.min_eq_left h]
  rw [e, framesS_append, List.length_append]
  exact Nat.le_add_right _ _
theorem Datas_take {l : List S68} (h : Datas l) (n : Nat) : Datas (l.take n) := fun x hx => h x (List.mem_of_mem_take hx)
theorem prefix_out (k : Nat) (l : List S68) (hd : Datas l) (hn : l.length ≤ 40) (w : Nat) (hw : w ≤ l.length) (s : Nat) (hk : 1000 ≤ k) :
    (if ((l.take w).length : Int) = (w : Int) then (if 0 ≤ (w : Int) then (if (w : Int) ≤ (l.length : Int) then ((horariumref47_Same.f k (l.take w) (l.take ((w : Int) : Int).toNat)).bind fun t516 => (if t516 = true then (if (s : Int) = (s : Int) then ((horariumlaw47_heads.f k).bind fun t517 => (some t517)) else (some false)) else (some false))) else (none)) else (none)) else (some false)) = some true := by
  have hdt := Datas_take hd w
  have ht : (l.take w).length = w := by rw [List.length_take]; omega
  rw [if_pos (by rw [ht]), if_pos (by omega), if_pos (by omega), Int.toNat_natCast, rsame_eq k _ _ hdt hdt (by omega) (by omega), Option.bind_some, if_pos (decide_eq_true rfl), if_pos rfl, horariumlaw47_heads.eq k (by omega), Option.bind_some]
theorem prefix_loop (l : List S68) (hr : Rights l) (hd : Datas l) (hn : l.length ≤ 40) (q w : Nat) (hw : w ≤ l.length) (hq : q ≤ 1000000000) (h1 : (framesS (l.take w)).length ≤ q) (h2 : w < l.length → q < (framesS (l.take (w + 1))).length) (d : Nat) :
    ∀ (i k : Nat), i + d = w → 1000 + d ≤ k → horariumlaw47_LogPrefix.l0 (k + 1) l (q : Int) (l.take w) ((framesS (l.take w)).length : Int) (i : Int) ((framesS (l.take i)).length : Int) (i : Int) = some true := by
  have hnat : l.length ≤ 140737488351232 := by omega
  induction d with
  | zero =>
    intro i k hi hk
    obtain rfl : i = w := by omega
    have ho := prefix_out k l hd hn i hw (framesS (l.take i)).length (by omega)
    by_cases hl : i < l.length
    · have hr1 : Spec.rightE ((rd_T68 l (i : Int)).f0, (rd_T68 l (i : Int)).f1) := hr _ (T68_mem l i hl)
      have hs := frame_small _ _ hr1
      have ht : (framesS (l.take (i + 1))).length = (framesS (l.take i)).length + (Spec.frameL ((rd_T68 l (i : Int)).f0, (rd_T68 l (i : Int)).f1)).length := framesS_take l i hl
      have h3 := h2 hl
      have hadd : (framesS (l.take i)).length + (Spec.frameL ((rd_T68 l (i : Int)).f0, (rd_T68 l (i : Int)).f1)).length ≤ 140737488351232 := by omega
      rw [horariumlaw47_LogPrefix.l0, if_pos (by omega), if_pos (by omega), psize_eq k _ _ (by omega), Option.bind_some, if_pos hr1, wr_sum _ _ hadd, if_neg (by omega)]
      exact ho
    · rw [horariumlaw47_LogPrefix.l0, if_neg (by omega)]
      exact ho
  | succ d ih =>
    intro i k hi hk
    obtain ⟨k, rfl⟩ : ∃ j, k = j + 1 := ⟨k - 1, by omega⟩
    have hl : i < l.length := by omega
    have hr1 : Spec.rightE ((rd_T68 l (i : Int)).f0, (rd_T68 l (i : Int)).f1) := hr _ (T68_mem l i hl)
    have hs := frame_small _ _ hr1
    have ht : (framesS (l.take (i + 1))).length = (framesS (l.take i)).length + (Spec.frameL ((rd_T68 l (i : Int)).f0, (rd_T68 l (i : Int)).f1)).length := framesS_take l i hl
    have hm := framesS_mono l (show i + 1 ≤ w by omega)
    have hadd : (framesS (l.take i)).length + (Spec.frameL ((rd_T68 l (i : Int)).f0, (rd_T68 l (i : Int)).f1)).length ≤ 140737488351232 := by omega
    have e := ih (i + 1) k (by omega) (by omega)
    rw [ht] at e
    rw [horariumlaw47_LogPrefix.l0, if_pos (by omega), if_pos (by omega), psize_eq (k + 1) _ _ (by omega), Option.bind_some, if_pos hr1, wr_sum _ _ hadd, if_pos (by omega), Option.bind_some, wrap_succ (n := l.length) hl hnat, wr_sum _ _ hadd]
    exact e
theorem prefix_j2 (k : Nat) (l : List S68) (hr : Rights l) (hd : Datas l) (hn : l.length ≤ 40) (a : Int) (hk : 500000000 ≤ k) :
    horariumlaw47_LogPrefix.j1 (k + 3) l a (framesS l) false = some true := by
  have hfl := framesS_small l hr
  have out : horariumlaw47_LogPrefix.j2 (k + 2) l a (framesS l) true = some true := by
    rw [horariumlaw47_LogPrefix.j2, if_pos rfl, horariumlaw47_heads.eq (k + 1) (by omega), Option.bind_some]
  rw [horariumlaw47_LogPrefix.j1, if_neg Bool.false_ne_true]
  by_cases ha : a < 0
  · rw [if_pos ha]
    exact out
  · rw [if_neg ha]
    by_cases hb : a > ((framesS l).length : Int)
    · rw [decide_eq_true hb]
      exact out
    · obtain ⟨q, rfl⟩ : ∃ q : Nat, a = (q : Int) := ⟨a.toNat, by omega⟩
      have hq : q ≤ (framesS l).length := by omega
      have hby := (framesS_bytes hr hd).take q
      have hlt : ((framesS l).take q).length ≤ 41944000 := by rw [List.length_take]; omega
      obtain ⟨w, hw, e1, e2, h1, h2⟩ := readS_torn l q hr hd hq
      rw [decide_eq_false hb, horariumlaw47_LogPrefix.j2, if_neg Bool.false_ne_true, if_pos (by omega), if_pos (by omega), Int.toNat_natCast, lread_eq (k + 1) _ hby (by omega) (by omega), Option.bind_some, e1, e2]
      have e := prefix_loop l hr hd hn q w hw (by omega) h1 h2 w 0 k (by omega) (by omega)
      exact e
theorem LogPrefix (l : List S68) (a : Int) (m : List Int) (hl : Datas l) (hm : Bytes m) (nl : l.length ≤ 9223372036854775807) : ∃ k, horariumlaw47_LogPrefix.f k l a m = some true := by
  obtain ⟨k, hk⟩ : ∃ k, k = 500000000 + l.length := ⟨_, rfl⟩
  refine ⟨k + 4, ?_⟩
  obtain ⟨b, hb, hb'⟩ := few_some (k + 4) l nl (by omega)
  have hh := horariumlaw47_heads.eq (k + 3) (by omega)
  have out : horariumlaw47_LogPrefix.j0 (k + 4) l a m true = some true := by
    rw [horariumlaw47_LogPrefix.j0, if_pos rfl, hh, Option.bind_some]
  unfold horariumlaw47_LogPrefix.f
  rw [hb, Option.bind_some]
  cases b with
  | false => rw [if_neg Bool.false_ne_true]; exact out
  | true =>
    have hn := hb' rfl
    rw [if_pos rfl]
    by_cases hm3 : (m.length : Int) > 3000
    · rw [decide_eq_true hm3]
      exact out
    · rw [decide_eq_false hm3, horariumlaw47_LogPrefix.j0, if_neg Bool.false_ne_true, write_eq (k + 3) l hl (by omega) (by omega), Option.bind_some]
      by_cases hr : Rights l
      · have hfl := framesS_small l hr
        have e1 := prefix_j2 k l hr hl hn a (by omega)
        obtain ⟨t, e, h1, h2, h3⟩ := readS_tail l m hr hl hm
        have hlen : (framesS l ++ m).length ≤ 41947000 := by rw [List.length_append]; omega
        have hdt : Datas ((l ++ t).take l.length) := by rw [List.take_left']; exact hl; rfl
        rw [if_pos hr]
        dsimp only
        rw [if_pos rfl, Option.bind_some, if_pos (by rw [List.length_nil]; omega), Option.bind_some, List.nil_append, if_pos (by omega),
          lread_eq (k + 3) _ ((framesS_bytes hr hl).append hm) (by omega) (by omega), Option.bind_some, h1, h2]
        dsimp only
        rw [if_neg (by rw [List.length_append]; omega), if_pos (by omega), if_pos (by rw [List.length_append]; omega), Int.toNat_natCast,
          rsame_eq (k + 3) _ _ hdt hl (by rw [List.length_take]; omega) (by rw [List.length_take]; omega), Option.bind_some, List.take_left' rfl, if_pos (decide_eq_true rfl), if_neg (by omega)]
        by_cases ht : t = []
        · obtain rfl : e = 0 := h3 ht
          rw [ht, List.append_nil, if_pos rfl, show ((((framesS l).length + 0 : Nat) : Int) != (((framesS l).length : Nat) : Int)) = false from bne_self_eq_false _]
          exact e1
        · have : 0 < t.length := List.length_pos_iff.2 ht
          rw [if_neg (by rw [List.length_append]; omega)]
          exact e1
      · rw [if_neg hr, if_neg (show ¬ (2 : Int) = 0 by decide), if_pos rfl, if_pos (show ((([] : List Int).length : Nat) : Int) = 0 from rfl), hh, Option.bind_some]
end Go.Proofs.Ytccjdefhieilpaa.Pure
