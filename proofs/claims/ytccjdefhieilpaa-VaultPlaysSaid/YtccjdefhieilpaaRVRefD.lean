/-
 What the law VaultPlays needs of VRefD (what it does not use is left out by a program of this session, wip/tools/dce.py).
-/
import Derived.Test.YtccjdefhieilpaaRVB
import Derived.Test.YtccjdefhieilpaaRPGx3
namespace Go.Proofs.Ytccjdefhieilpaa.VT
open Go.RowKit Go.Proofs.YtccjdefhieilpaaW.PrintWords Go.Proofs.Ytccjdefhieilpaa.PB Go.Proofs.Ytccjdefhieilpaa.PL Go.Proofs.Ytccjdefhieilpaa.PG Go.Proofs.Ytccjdefhieilpaa.Pure
set_option linter.unusedVariables false
theorem s_append (a b : List Int) : strOfNums (a ++ b) = strOfNums a ++ strOfNums b := by
 apply ByteArray.ext
 apply Array.toList_inj.1
 rw [ByteArray.data_append, Array.toList_append, strOfNums_data, strOfNums_data, strOfNums_data, List.map_append]
theorem s_extract (a : List Int) (i j : Nat) : (strOfNums a).extract i j = strOfNums ((a.take j).drop i) := by
 apply ByteArray.ext
 apply Array.toList_inj.1
 rw [ByteArray.data_extract, Array.toList_extract, strOfNums_data, strOfNums_data, List.extract_eq_take_drop, List.drop_take, List.map_take, List.map_drop]
def wS (ws : List S161) : List S166 := ws.map fun x => ⟨x.f0, strOfNums x.f1⟩
theorem wS_length (ws : List S161) : (wS ws).length = ws.length := List.length_map ..
theorem rd_wS (ws : List S161) (j : Nat) (h : j < ws.length) : rd_T166 (wS ws) (j : Int) = ⟨(ws[j]).f0, strOfNums (ws[j]).f1⟩ := by
 unfold rd_T166 wS
 rw [Int.toNat_natCast, List.getD_eq_getElem?_getD, List.getElem?_map, List.getElem?_eq_getElem h]
 rfl
theorem rlay_eq (b : List Int) (a : Int) (xs : List Int) (h0 : 0 ≤ a) (h1 : a.toNat + xs.length ≤ b.length) (hl : b.length ≤ 1048576) :
  horariumref48_lay.f (strOfNums b) a (strOfNums xs) = some (strOfNums (layL b a.toNat xs)) := by
 have hw : wrap64 (a + (xs.length : Int)) = a + (xs.length : Int) := by unfold wrap64; omega
 have e0 : ((strOfNums b).extract 0 a.toNat) = strOfNums (b.take a.toNat) := by rw [s_extract, List.drop_zero]
 have e1 : (strOfNums b).extract (a + (xs.length : Int)).toNat (strOfNums b).size = strOfNums (b.drop (a.toNat + xs.length)) := by
  rw [s_extract, strOfNums_size, List.take_length]
  congr 2
  omega
 unfold horariumref48_lay.f
 rw [strOfNums_size xs, hw, e0, e1, ← s_append, ← s_append]
 rw [if_pos h0, if_pos (by rw [strOfNums_size]; omega), if_pos (by simp only [strOfNums_size, List.length_take]; omega), if_pos (by omega), if_pos (by rw [strOfNums_size]; omega), if_pos (by simp only [strOfNums_size, List.length_append, List.length_take, List.length_drop]; omega)]
 unfold layL
 rw [List.append_assoc]
theorem rseen_loop (B : ByteArray) (de : Bool) (arm : Int) (ws : List S161) (hn : ws.length ≤ 1000000) (m : Nat) (hm : m ≤ 1048576) (hf : ∀ x ∈ ws, 0 ≤ x.f0 ∧ x.f0.toNat + x.f1.length ≤ m) : ∀ (n j k : Nat) (acc : List Int), acc.length = m → ws.length = j + n → n < k → horariumref48_Seen.l0 k (strOfNums acc) (j : Int) B (wS ws) de arm = some (strOfNums (layAll acc (ws.drop j)))
 | n, j, 0, acc, _, _, h => absurd h (Nat.not_lt_zero _)
 | 0, j, k + 1, acc, ha, hj, _ => by
  rw [horariumref48_Seen.l0, if_neg (by rw [wS_length]; omega), List.drop_eq_nil_of_le (by omega)]
  rfl
 | n + 1, j, k + 1, acc, ha, hj, hk => by
  have hjl : j < ws.length := by omega
  have hx := hf _ (List.getElem_mem hjl)
  have hw : wrap64 ((j : Int) + 1) = ((j + 1 : Nat) : Int) := by unfold wrap64; omega
  rw [horariumref48_Seen.l0, if_pos (by rw [wS_length]; omega), if_pos (by omega), rd_wS ws j hjl]
  show (horariumref48_lay.f (strOfNums acc) (ws[j]).f0 (strOfNums (ws[j]).f1)).bind _ = _
  rw [rlay_eq acc _ _ hx.1 (by rw [ha]; exact hx.2) (by rw [ha]; exact hm), Option.bind_some, hw,
   rseen_loop B de arm ws hn m hm hf n (j + 1) k _ (by rw [layL_length _ _ _ (by rw [ha]; exact hx.2)]; exact ha) (by omega) (by omega), List.drop_eq_getElem_cons hjl]
  rfl
theorem rcrash_loop (de : Bool) (arm : Int) (ws : List S161) (hn : ws.length ≤ 1000000) (m : Nat) (hm : m ≤ 1048576) (hf : ∀ x ∈ ws, 0 ≤ x.f0 ∧ x.f0.toNat + x.f1.length ≤ m) (keep : Int) : ∀ (n j k : Nat) (acc : List Int), acc.length = m → ws.length = j + n → n < k → horariumref48_Crash.l0 k keep (j : Int) (strOfNums acc) (wS ws) de arm = some (strOfNums (layAll acc ((ws.take keep.toNat).drop j)), [], false, -1)
 | n, j, 0, acc, _, _, h => absurd h (Nat.not_lt_zero _)
 | 0, j, k + 1, acc, ha, hj, _ => by
  rw [horariumref48_Crash.l0, if_neg (by rw [wS_length]; omega), List.drop_eq_nil_of_le (by rw [List.length_take]; omega)]
  rfl
 | n + 1, j, k + 1, acc, ha, hj, hk => by
  have hjl : j < ws.length := by omega
  have hx := hf _ (List.getElem_mem hjl)
  have hw : wrap64 ((j : Int) + 1) = ((j + 1 : Nat) : Int) := by unfold wrap64; omega
  by_cases c : (j : Int) < keep
  ·have hjt : j < (ws.take keep.toNat).length := by rw [List.length_take]; omega
   rw [horariumref48_Crash.l0, if_pos (by rw [wS_length]; omega), if_pos c, if_pos (by omega), rd_wS ws j hjl]
   show (horariumref48_lay.f (strOfNums acc) (ws[j]).f0 (strOfNums (ws[j]).f1)).bind _ = _
   rw [rlay_eq acc _ _ hx.1 (by rw [ha]; exact hx.2) (by rw [ha]; exact hm), Option.bind_some, hw,
    rcrash_loop de arm ws hn m hm hf keep n (j + 1) k _ (by rw [layL_length _ _ _ (by rw [ha]; exact hx.2)]; exact ha) (by omega) (by omega), List.drop_eq_getElem_cons hjt, List.getElem_take]
   rfl
  ·rw [horariumref48_Crash.l0, if_pos (by rw [wS_length]; omega), if_neg c, List.drop_eq_nil_of_le (by rw [List.length_take]; omega)]
   rfl
def ArmR (fuse arm : Int) (i : Nat) : Prop := (1 ≤ fuse ∧ fuse ≤ 4611686018427387904 ∧ arm = fuse - 1) ∨ (fuse = 0 ∧ (arm = -1 ∨ (4611686018427387904 ≤ arm + (i : Int) ∧ arm ≤ 9223372036854775807)))
theorem ArmR.more {fuse arm : Int} {i j : Nat} (h : ArmR fuse arm i) (hj : i ≤ j) : ArmR fuse arm j := by
 unfold ArmR at h ⊢
 omega
theorem ArmR.new (i : Nat) : ArmR 0 (-1) i := .inr ⟨rfl, .inl rfl⟩
theorem rpower_eq {d : D} {arm : Int} {i : Nat} (h : ArmR d.fuse arm i) (hi : i ≤ 1000) (B : ByteArray) (W : List S166) :
  ∃ arm', horariumref48_power.f B W d.dead arm = some (B, W, (burnD d).1.dead, arm', decide ((burnD d).2 = 0)) ∧ ArmR (burnD d).1.fuse arm' (i + 1) ∧ ((burnD d).2 = 0 ∨ (burnD d).2 = 28) := by
 unfold ArmR at h
 by_cases c : d.fuse = 0
 ·have hE : burnD d = (d, 0) := by unfold burnD; rw [if_pos c]
  rw [hE]
  unfold horariumref48_power.f
  have ha : ¬ arm = 0 := by omega
  rw [if_neg ha]
  by_cases c1 : arm > 0
  ·rw [if_pos c1]
   have hw : wrap64 (arm - 1) = arm - 1 := by unfold wrap64; omega
   rw [hw]
   refine ⟨arm - 1, rfl, .inr ⟨c, .inr ?_⟩, .inl rfl⟩
   omega
  ·rw [if_neg c1]
   refine ⟨arm, rfl, .inr ⟨c, .inl ?_⟩, .inl rfl⟩
   omega
 ·have hw : wrap64 (d.fuse - 1) = d.fuse - 1 := by unfold wrap64; omega
  obtain rfl : arm = d.fuse - 1 := by omega
  by_cases c1 : d.fuse - 1 = 0
  ·have hE : burnD d = (⟨d.b, d.ws, true, 0⟩, 28) := by unfold burnD; rw [if_neg c, hw, if_pos c1, c1]
   rw [hE]
   unfold horariumref48_power.f
   rw [if_pos c1]
   exact ⟨-1, rfl, .inr ⟨rfl, .inl rfl⟩, .inr rfl⟩
  ·have hE : burnD d = (⟨d.b, d.ws, d.dead, d.fuse - 1⟩, 0) := by unfold burnD; rw [if_neg c, hw, if_neg c1]
   rw [hE]
   unfold horariumref48_power.f
   have hw2 : wrap64 (d.fuse - 1 - 1) = d.fuse - 1 - 1 := by unfold wrap64; omega
   rw [if_neg c1, if_pos (by omega), hw2]
   refine ⟨d.fuse - 1 - 1, rfl, .inl ⟨?_, ?_, rfl⟩, .inl rfl⟩
   ·show 1 ≤ d.fuse - 1
    omega
   ·show d.fuse - 1 ≤ _
    omega
theorem powerD_live {d : D} (hd : d.dead = false) (a n : Int) : powerD d a n = 0 ∨ powerD d a n = 6 := by
 unfold powerD
 rw [if_neg (by rw [hd]; decide)]
 repeat' first
  | exact .inl rfl
  | exact .inr rfl
  | split
theorem rfits_eq {d : D} (hd : d.dead = false) (W : List S166) (de : Bool) (arm a n : Int) : horariumref48_Fits.f (strOfNums d.b) W de arm a n = some (decide (powerD d a n = 0)) := by
 unfold horariumref48_Fits.f powerD
 rw [if_neg (show ¬ d.dead = true by rw [hd]; decide), strOfNums_size]
 by_cases c1 : a < 0
 ·rw [if_neg (show ¬ a ≥ 0 by omega), if_pos c1]
  rfl
 ·rw [if_pos (show a ≥ 0 by omega), if_neg c1]
  by_cases c2 : n < 0
  ·rw [if_neg (show ¬ n ≥ 0 by omega), if_pos c2]
   rfl
  ·rw [if_pos (show n ≥ 0 by omega), if_neg c2]
   by_cases c3 : (d.b.length : Int) < a
   ·rw [if_neg (show ¬ a ≤ (d.b.length : Int) by omega), if_pos c3]
    rfl
   ·rw [if_pos (show a ≤ (d.b.length : Int) by omega), if_neg c3]
    by_cases c4 : wrap64 ((d.b.length : Int) - a) < n
    ·rw [if_pos c4, decide_eq_false (by omega)]
     rfl
    ·rw [if_neg c4, decide_eq_true (by omega)]
     rfl
theorem rwrite_eq {d : D} {arm : Int} {i : Nat} (h : ArmR d.fuse arm i) (hi : i ≤ 1000) (hws : d.ws.length ≤ 1000000) (a : Int) (xs : List Int) :
  ∃ arm', horariumref48_Write.f (strOfNums d.b) (wS d.ws) d.dead arm a (strOfNums xs) = some (strOfNums (writeD d a xs).1.b, wS (writeD d a xs).1.ws, (writeD d a xs).1.dead, arm', (writeD d a xs).2) ∧ ArmR (writeD d a xs).1.fuse arm' (i + 1) := by
 unfold horariumref48_Write.f
 by_cases c : d.dead = true
 ·have hp : powerD d a xs.length = 28 := by unfold powerD; rw [if_pos c]
  have hE : writeD d a xs = (d, 28) := by unfold writeD; rw [hp]; rfl
  rw [if_pos c, hE]
  exact ⟨arm, rfl, h.more (Nat.le_succ _)⟩
 ·have cd : d.dead = false := Bool.eq_false_iff.2 c
  rw [if_neg c, strOfNums_size, rfits_eq cd, Option.bind_some]
  by_cases c1 : powerD d a xs.length = 0
  ·rw [decide_eq_true c1, if_pos rfl]
   obtain ⟨arm', hp, ha, hq⟩ := rpower_eq h hi (strOfNums d.b) (wS d.ws)
   have hbw := burnD_bw d
   rw [hp, Option.bind_some]
   by_cases c2 : (burnD d).2 = 0
   ·have hE : writeD d a xs = (⟨d.b, d.ws ++ [⟨a, xs⟩], (burnD d).1.dead, (burnD d).1.fuse⟩, 0) := by unfold writeD; rw [if_pos c1, if_pos c2]
    rw [decide_eq_true c2, hE]
    refine ⟨arm', ?_, ha⟩
    simp only [if_true, Option.bind_some, List.length_nil, Nat.zero_add, List.nil_append]
    rw [if_pos (by rw [wS_length]; omega), if_pos (by rw [wS_length]; omega)]
    unfold wS
    rw [List.map_append]
    rfl
   ·have hE : writeD d a xs = burnD d := by unfold writeD; rw [if_pos c1, if_neg c2]
    rw [decide_eq_false c2, hE, hbw.1, hbw.2]
    refine ⟨arm', ?_, ha⟩
    rw [if_neg Bool.false_ne_true, hq.resolve_left c2]
  ·have hp := (powerD_live cd a xs.length).resolve_left c1
   have hE : writeD d a xs = (d, 6) := by unfold writeD; rw [if_neg c1, hp]
   rw [decide_eq_false c1, hE, if_neg (by decide)]
   exact ⟨arm, rfl, h.more (Nat.le_succ _)⟩
theorem rseen_eq {d : D} (hs : d.b.length ≤ 1048576) (hws : d.ws.length ≤ 1000000) (hf : ∀ x ∈ d.ws, 0 ≤ x.f0 ∧ x.f0.toNat + x.f1.length ≤ d.b.length) (k : Nat) (hk : 1000001 ≤ k) (de : Bool) (arm : Int) :
  horariumref48_Seen.f k (strOfNums d.b) (wS d.ws) de arm = some (strOfNums (layAll d.b d.ws)) := by
 have h := rseen_loop (strOfNums d.b) de arm d.ws hws d.b.length hs hf d.ws.length 0 k d.b rfl (Nat.zero_add _).symm (by omega)
 rw [List.drop_zero] at h
 exact h
theorem rcrash_eq {d : D} (hs : d.b.length ≤ 1048576) (hws : d.ws.length ≤ 1000000) (hf : ∀ x ∈ d.ws, 0 ≤ x.f0 ∧ x.f0.toNat + x.f1.length ≤ d.b.length) (k : Nat) (hk : 1000001 ≤ k) (de : Bool) (arm keep : Int) :
  horariumref48_Crash.f k (strOfNums d.b) (wS d.ws) de arm keep = some (strOfNums (crashD d keep).b, [], false, -1) := by
 have h := rcrash_loop de arm d.ws hws d.b.length hs hf keep d.ws.length 0 k d.b rfl (Nat.zero_add _).symm (by omega)
 rw [List.drop_zero] at h
 exact h
theorem rflush_eq {d : D} {arm : Int} {i : Nat} (h : ArmR d.fuse arm i) (hi : i ≤ 1000) (hs : d.b.length ≤ 1048576) (hws : d.ws.length ≤ 1000000) (hf : ∀ x ∈ d.ws, 0 ≤ x.f0 ∧ x.f0.toNat + x.f1.length ≤ d.b.length) (k : Nat) (hk : 1000001 ≤ k) :
  ∃ arm', horariumref48_Flush.f k (strOfNums d.b) (wS d.ws) d.dead arm = some (strOfNums (flushD d).1.b, wS (flushD d).1.ws, (flushD d).1.dead, arm', (flushD d).2) ∧ ArmR (flushD d).1.fuse arm' (i + 1) := by
 unfold horariumref48_Flush.f
 by_cases c : d.dead = true
 ·have hp : powerD d 0 0 = 28 := by unfold powerD; rw [if_pos c]
  have hE : flushD d = (d, 28) := by unfold flushD; rw [hp]; rfl
  rw [if_pos c, hE]
  exact ⟨arm, rfl, h.more (Nat.le_succ _)⟩
 ·have cd : d.dead = false := Bool.eq_false_iff.2 c
  have c1 : powerD d 0 0 = 0 := by
   unfold powerD
   have hw : wrap64 ((d.b.length : Int) - 0) = (d.b.length : Int) := by unfold wrap64; omega
   rw [if_neg c, if_neg (by decide), if_neg (by decide), if_neg (by omega), hw, if_neg (by omega)]
  obtain ⟨arm', hp, ha, hq⟩ := rpower_eq h hi (strOfNums d.b) (wS d.ws)
  have hbw := burnD_bw d
  rw [if_neg c, hp, Option.bind_some]
  by_cases c2 : (burnD d).2 = 0
  ·have hE : flushD d = (⟨layAll d.b d.ws, [], (burnD d).1.dead, (burnD d).1.fuse⟩, 0) := by unfold flushD; rw [if_pos c1, if_pos c2]
   rw [decide_eq_true c2, hE]
   refine ⟨arm', ?_, ha⟩
   rw [if_pos rfl, rseen_eq hs hws hf k hk, Option.bind_some]
   rfl
  ·have hE : flushD d = burnD d := by unfold flushD; rw [if_pos c1, if_neg c2]
   rw [decide_eq_false c2, hE, hbw.1, hbw.2]
   refine ⟨arm', ?_, ha⟩
   rw [if_neg Bool.false_ne_true, hq.resolve_left c2]
theorem rarm_eq {d : D} (B : ByteArray) (W : List S166) (arm n : Int) (hn : n ≤ 9223372036854775807) (i : Nat) :
  ∃ arm', horariumref48_Arm.f B W d.dead arm n = some (B, W, (armD d n).dead, arm') ∧ ArmR (armD d n).fuse arm' i := by
 refine ⟨mx n (-1), rfl, ?_⟩
 show ArmR (if 0 ≤ n ∧ n < 4611686018427387904 then n + 1 else 0) (if n < -1 then -1 else n) i
 unfold ArmR
 split <;> split <;> omega
end Go.Proofs.Ytccjdefhieilpaa.VT
