/-
 What the law VaultPlays needs of VA (what it does not use is left out by a program of this session, wip/tools/dce.py).
-/
import Derived.Test.YtccjdefhieilpaaRPGx0
import Derived.Test.YtccjdefhieilpaaRLogBase
import Derived.Lib.LazyBuf
namespace Go.Proofs.Ytccjdefhieilpaa.VT
open Go.RowKit Go.Proofs.YtccjdefhieilpaaW.PrintWords Go.Proofs.YtccjdefhieilpaaW.PrintLast Go.Proofs.YtccjdefhieilpaaW.PrintMore Go.Proofs.Ytccjdefhieilpaa.PB Go.Proofs.Ytccjdefhieilpaa.PL Go.Proofs.Ytccjdefhieilpaa.PG
attribute [local go_sem] max2_int min2_int max_two min_two max_three min_three max_four min_four   -- for this text's walks alone
set_option linter.unusedVariables false
set_option linter.unusedSimpArgs false
structure D where
 b : List Int
 ws : List S161
 dead : Bool
 fuse : Int
def u8s (l : List Int) : Array Value := (l.map (Value.int .u8)).toArray
structure Dev (S : Nat → Prop) (w : World) (g : Nat) (d : D) : Prop where
 has : S g
 lt : ∀ k, S k → k < w.heap.size
 parts : ∃ gb vw, w.heap[g]? = some (.cells #[.slice (some ⟨gb, 0, none⟩) d.b.length d.b.length, vw, .bool d.dead, .int .i64 d.fuse] 151 (0, 0)) ∧ S gb ∧ w.heap[gb]? = some (.cells (u8s d.b) 5 (0, 0)) ∧
  Kd.N k161 161 w 0 (fun k => S k ∧ k ≠ g ∧ k ≠ gb) vw d.ws
 small : d.b.length ≤ 1048576
 some_ : d.b ≠ []
 fits : ∀ x ∈ d.ws, 0 ≤ x.f0 ∧ x.f0.toNat + x.f1.length ≤ d.b.length
structure Went (S : Nat → Prop) (w w' : World) : Prop where
 kept : Kept w w' S
 below : Below 0 w w'
theorem Went.of_below {S : Nat → Prop} {w w' : World} (h : Below w.heap.size w w') : Went S w w' := ⟨Kept.of_below h S, ⟨h.os, h.tape, h.output, h.size, fun j hj => absurd hj (Nat.not_lt_zero _)⟩⟩
theorem Went.trans {S S' : Nat → Prop} {w w' w'' : World} (h : Went S w w') (h' : Went S' w' w'') (hs : ∀ k, S' k → S k ∨ w.heap.size ≤ k) : Went S w w'' :=
 ⟨h.kept.then_ h'.kept hs, ⟨h'.below.os.trans h.below.os, h'.below.tape.trans h.below.tape, h'.below.output.trans h.below.output, Nat.le_trans h.below.size h'.below.size, fun j hj => absurd hj (Nat.not_lt_zero _)⟩⟩
theorem Went.to_below {S : Nat → Prop} {w w' : World} (h : Went S w w') {n : Nat} (hn : n ≤ w.heap.size) (hs : ∀ k, S k → n ≤ k) : Below n w w' :=
 ⟨h.below.os, h.below.tape, h.below.output, h.below.size, fun j hj => h.kept.2 j (by omega) (fun hk => by have := hs j hk; omega)⟩
theorem Dev.below {S : Nat → Prop} {w w' : World} {g : Nat} {d : D} (h : Dev S w g d) (hb : Below w.heap.size w w') : Dev S w' g d := by
 obtain ⟨gb, vw, h1, h2, h3, h4⟩ := h.parts
 exact ⟨h.has, fun k hk => Nat.lt_of_lt_of_le (h.lt k hk) hb.size, ⟨gb, vw, blk_below h1 hb, h2, blk_below h3 hb, Kd.N_below h4 hb⟩, h.small, h.some_, h.fits⟩
theorem Dev.kept {S S' : Nat → Prop} {w w' : World} {g : Nat} {d : D} (h : Dev S w g d) (hk : Kept w w' S') (hs : ∀ k, S k → ¬ S' k) : Dev S w' g d := by
 obtain ⟨gb, vw, h1, h2, h3, h4⟩ := h.parts
 exact ⟨h.has, fun k hk' => Nat.lt_of_lt_of_le (h.lt k hk') hk.1, ⟨gb, vw, blk_kept h1 hk (hs g h.has), h2, blk_kept h3 hk (hs gb h2), Kd.N_kept h4 hk (fun k hk' => hs k hk'.1)⟩, h.small, h.some_, h.fits⟩
theorem size_set (w : World) (p : Addr) (u : Value) : (w.setCell p u).heap.size = w.heap.size := by
 have h := (setCells_same p.block [] 0 w).2.2.2
 unfold World.setCell
 split <;> simp
theorem Went.refl (S : Nat → Prop) (w : World) : Went S w w := Went.of_below (Below.refl _ _)
theorem Went.set {S : Nat → Prop} {w w' : World} (h : Went S w w') {p : Addr} (hp : S p.block ∨ w.heap.size ≤ p.block) (u : Value) : Went S w (w'.setCell p u) := ⟨h.kept.setCell hp u, h.below.setCell (Nat.zero_le _) u⟩
theorem Went.step {S : Nat → Prop} {w w' w'' : World} (h : Went S w w') (hb : Below w'.heap.size w' w'') : Went S w w'' := h.trans (Went.of_below (S := fun _ => False) hb) (fun _ h => h.elim)
theorem Dev.set2 {S : Nat → Prop} {w : World} {g : Nat} {d : D} (h : Dev S w g d) (x : Bool) : Dev S (w.setCell ⟨g, 2, none⟩ (.bool x)) g ⟨d.b, d.ws, x, d.fuse⟩ := by
 obtain ⟨gb, vw, h1, h2, h3, h4⟩ := h.parts
 exact ⟨h.has, fun k hk => by rw [size_set]; exact h.lt k hk, ⟨gb, vw, blk_put h1 2 _ rfl, h2, blk_far h3 (blk_ne h3 h1 (by decide)) _, Kd.N_far h4 (fun k hk => hk.2.1) _⟩, h.small, h.some_, h.fits⟩
theorem Dev.set3 {S : Nat → Prop} {w : World} {g : Nat} {d : D} (h : Dev S w g d) (x : Int) : Dev S (w.setCell ⟨g, 3, none⟩ (.int .i64 x)) g ⟨d.b, d.ws, d.dead, x⟩ := by
 obtain ⟨gb, vw, h1, h2, h3, h4⟩ := h.parts
 exact ⟨h.has, fun k hk => by rw [size_set]; exact h.lt k hk, ⟨gb, vw, blk_put h1 3 _ rfl, h2, blk_far h3 (blk_ne h3 h1 (by decide)) _, Kd.N_far h4 (fun k hk => hk.2.1) _⟩, h.small, h.some_, h.fits⟩
def burnD (d : D) : D × Int :=
 if d.fuse = 0 then (d, 0) else if wrap64 (d.fuse - 1) = 0 then (⟨d.b, d.ws, true, wrap64 (d.fuse - 1)⟩, 28) else (⟨d.b, d.ws, d.dead, wrap64 (d.fuse - 1)⟩, 0)
def powerD (d : D) (a n : Int) : Int :=
 if d.dead = true then 28 else if a < 0 then 6 else if n < 0 then 6 else if (d.b.length : Int) < a then 6 else if wrap64 ((d.b.length : Int) - a) < n then 6 else 0
theorem eq44 (w : World) (a : Addr) (l c : Nat) : (binOp .eql 44 (.slice (some a) l c) (.slice none 0 0)).run Try.prog w = .ok (.bool false) w := run_eql_slice_nil w 44 5 (some a) l c Try.underlying44
attribute [local go_sem] eq44
set_option maxHeartbeats 8000000 in
set_option maxRecDepth 100000 in
theorem none_calls {S : Nat → Prop} {w : World} {g : Nat} {d : D} (h : Dev S w g d) :
  Calls Try.prog 125 #[.pointer (some ⟨g, 0, none⟩)] w fun e w' => e = .returned (.bool false) ∧ Below w.heap.size w w' := by
 obtain ⟨gb, vw, h1, h2, h3, h4⟩ := h.parts
 have HB := Aside0.mk (Below.refl w.heap.size w)
 have hc0 : w.cell? ⟨g, 0, none⟩ = some (.slice (some ⟨gb, 0, none⟩) d.b.length d.b.length) := (blk_cell h1 0).trans rfl
 clear h2 h3 h4 h1
 go_enter Try.func125, Try.ntmps125
 go_wp2_with fail
 go_ret
 exact ⟨rfl, HB.out⟩
set_option maxHeartbeats 8000000 in
set_option maxRecDepth 100000 in
theorem size_calls {S : Nat → Prop} {w : World} {g : Nat} {d : D} (h : Dev S w g d) :
  Calls Try.prog 75 #[.pointer (some ⟨g, 0, none⟩)] w fun e w' => e = .returned (.int .i64 (d.b.length : Int)) ∧ Below w.heap.size w w' := by
 have hdev := Aside0.mk h
 go_enter Try.func75, Try.ntmps75
 go_wp2_with fail
 refine (none_calls hdev.out).mono ?_
 rintro e w1 ⟨rfl, hb⟩
 have hd1 := Aside0.mk (hdev.out.below hb)
 obtain ⟨gb, vw, h1, _⟩ := hd1.out.parts
 have hc0 : w1.cell? ⟨g, 0, none⟩ = some (.slice (some ⟨gb, 0, none⟩) d.b.length d.b.length) := (blk_cell h1 0).trans rfl
 have HB := Aside0.mk hb
 clear h1 hb h
 go_wp2_with fail
 go_ret
 exact ⟨rfl, HB.out⟩
set_option maxHeartbeats 8000000 in
set_option maxRecDepth 100000 in
theorem burn_calls {S : Nat → Prop} {w : World} {g : Nat} {d : D} (h : Dev S w g d) :
  Calls Try.prog 130 #[.pointer (some ⟨g, 0, none⟩)] w fun e w' => e = .returned (.int .i64 (burnD d).2) ∧ Dev S w' g (burnD d).1 ∧ Went S w w' := by
 obtain ⟨gb, vw, h1, h2, h3, h4⟩ := h.parts
 have hdev := Aside0.mk h
 have hc3 : w.cell? ⟨g, 3, none⟩ = some (.int .i64 d.fuse) := (blk_cell h1 3).trans rfl
 have hc2 : w.cell? ⟨g, 2, none⟩ = some (.bool d.dead) := (blk_cell h1 2).trans rfl
 have hf3 := blk_frozen h1 3
 have hf2 := blk_frozen h1 2
 clear h2 h3 h4 h1 h
 by_cases c : d.fuse = 0
 ·have cb : (d.fuse == 0) = true := beq_iff_eq.mpr c
  have hE : burnD d = (d, 0) := by unfold burnD; rw [if_pos c]
  rw [hE]
  clear hE
  go_enter Try.func130, Try.ntmps130
  go_wp2_with fail
  go_ret
  exact ⟨rfl, hdev.out, Went.refl _ _⟩
 ·have cb : (d.fuse == 0) = false := beq_eq_false_iff_ne.mpr c
  by_cases c1 : wrap64 (d.fuse - 1) = 0
  ·have cb1 : (wrap64 (d.fuse - 1) == 0) = true := beq_iff_eq.mpr c1
   have hE : burnD d = (⟨d.b, d.ws, true, 0⟩, 28) := by unfold burnD; rw [if_neg c, if_pos c1, c1]
   rw [hE]
   clear hE
   go_enter Try.func130, Try.ntmps130
   go_wp2_with fail
   go_ret
   exact ⟨rfl, (hdev.out.set3 0).set2 true, ((Went.refl S w).set (.inl hdev.out.has) _).set (.inl hdev.out.has) _⟩
  ·have cb1 : (wrap64 (d.fuse - 1) == 0) = false := beq_eq_false_iff_ne.mpr c1
   have hE : burnD d = (⟨d.b, d.ws, d.dead, wrap64 (d.fuse - 1)⟩, 0) := by unfold burnD; rw [if_neg c, if_neg c1]
   rw [hE]
   clear hE
   go_enter Try.func130, Try.ntmps130
   go_wp2_with fail
   go_ret
   exact ⟨rfl, hdev.out.set3 _, (Went.refl S w).set (.inl hdev.out.has) _⟩
set_option maxHeartbeats 8000000 in
set_option maxRecDepth 100000 in
theorem power_calls {S : Nat → Prop} {w : World} {g : Nat} {d : D} (h : Dev S w g d) (a n : Int) :
  Calls Try.prog 129 #[.pointer (some ⟨g, 0, none⟩), .int .i64 a, .int .i64 n] w fun e w' => e = .returned (.int .i64 (powerD d a n)) ∧ Below w.heap.size w w' := by
 have hdev := Aside0.mk h
 clear h
 go_enter Try.func129, Try.ntmps129
 go_wp2_with fail
 refine (none_calls hdev.out).mono ?_
 rintro e w1 ⟨rfl, hb⟩
 have hd1 := Aside0.mk (hdev.out.below hb)
 obtain ⟨gb, vw, h1, _⟩ := hd1.out.parts
 have hc0 : w1.cell? ⟨g, 0, none⟩ = some (.slice (some ⟨gb, 0, none⟩) d.b.length d.b.length) := (blk_cell h1 0).trans rfl
 have hc2 : w1.cell? ⟨g, 2, none⟩ = some (.bool d.dead) := (blk_cell h1 2).trans rfl
 have HB := Aside0.mk hb
 clear h1 hb
 by_cases c : d.dead = true
 ·have hE : Aside0 (powerD d a n = 28) := ⟨by unfold powerD; rw [if_pos c]⟩
  go_wp2_with fail
  go_ret
  exact ⟨by rw [hE.out]; rfl, HB.out⟩
 ·have cb : d.dead = false := Bool.eq_false_iff.2 c
  by_cases c1 : a < 0
  ·have cb1 : decide (a < 0) = true := decide_eq_true c1
   have hE : Aside0 (powerD d a n = 6) := ⟨by unfold powerD; rw [if_neg c, if_pos c1]⟩
   go_wp2_with fail
   go_ret
   exact ⟨by rw [hE.out]; rfl, HB.out⟩
  ·have cb1 : decide (a < 0) = false := decide_eq_false c1
   by_cases c2 : n < 0
   ·have cb2 : decide (n < 0) = true := decide_eq_true c2
    have hE : Aside0 (powerD d a n = 6) := ⟨by unfold powerD; rw [if_neg c, if_neg c1, if_pos c2]⟩
    go_wp2_with fail
    go_ret
    exact ⟨by rw [hE.out]; rfl, HB.out⟩
   ·have cb2 : decide (n < 0) = false := decide_eq_false c2
    by_cases c3 : (d.b.length : Int) < a
    ·have cb3 : decide ((d.b.length : Int) < a) = true := decide_eq_true c3
     have hE : Aside0 (powerD d a n = 6) := ⟨by unfold powerD; rw [if_neg c, if_neg c1, if_neg c2, if_pos c3]⟩
     go_wp2_with fail
     go_ret
     exact ⟨by rw [hE.out]; rfl, HB.out⟩
    ·have cb3 : decide ((d.b.length : Int) < a) = false := decide_eq_false c3
     by_cases c4 : wrap64 ((d.b.length : Int) - a) < n
     ·have cb4 : decide (wrap64 ((d.b.length : Int) - a) < n) = true := decide_eq_true c4
      have hE : Aside0 (powerD d a n = 6) := ⟨by unfold powerD; rw [if_neg c, if_neg c1, if_neg c2, if_neg c3, if_pos c4]⟩
      go_wp2_with fail
      go_ret
      exact ⟨by rw [hE.out]; rfl, HB.out⟩
     ·have cb4 : decide (wrap64 ((d.b.length : Int) - a) < n) = false := decide_eq_false c4
      have hE : Aside0 (powerD d a n = 0) := ⟨by unfold powerD; rw [if_neg c, if_neg c1, if_neg c2, if_neg c3, if_neg c4]⟩
      go_wp2_with fail
      go_ret
      exact ⟨by rw [hE.out]; rfl, HB.out⟩
end Go.Proofs.Ytccjdefhieilpaa.VT
namespace Go.Proofs.Ytccjdefhieilpaa.VT
open Go.RowKit Go.Proofs.YtccjdefhieilpaaW.PrintWords Go.Proofs.YtccjdefhieilpaaW.PrintLast Go.Proofs.YtccjdefhieilpaaW.PrintMore Go.Proofs.Ytccjdefhieilpaa.PB Go.Proofs.Ytccjdefhieilpaa.PL Go.Proofs.Ytccjdefhieilpaa.PG
attribute [local go_sem] max2_int min2_int max_two min_two max_three min_three max_four min_four   -- for this text's walks alone
set_option linter.unusedVariables false
set_option linter.unusedSimpArgs false
theorem info161 : (Try.prog.info? 161).map (fun i => (i.zero, i.size, i.bytes)) = some (some (.agg #[(.int .i64 0), (.slice none 0 0)]), 2, 32) := by kernel_rfl
def layL (b : List Int) (a : Nat) (xs : List Int) : List Int := b.take a ++ (xs ++ b.drop (a + xs.length))
def layD (b : List Int) (x : S161) : List Int := layL b x.f0.toNat x.f1
def layAll (b : List Int) (ws : List S161) : List Int := ws.foldl layD b
theorem layL_length (b : List Int) (a : Nat) (xs : List Int) (h : a + xs.length ≤ b.length) : (layL b a xs).length = b.length := by
 unfold layL
 rw [List.length_append, List.length_append, List.length_take, List.length_drop]
 omega
theorem layL_nil (b : List Int) (a : Nat) : layL b a [] = b := by
 unfold layL
 rw [List.nil_append, List.length_nil, Nat.add_zero, List.take_append_drop]
theorem layAll_length : ∀ (ws : List S161) (b : List Int), (∀ x ∈ ws, 0 ≤ x.f0 ∧ x.f0.toNat + x.f1.length ≤ b.length) → (layAll b ws).length = b.length
 | [], b, _ => rfl
 | x :: ws, b, h => by
  have h1 := h x (List.mem_cons_self ..)
  have e : (layD b x).length = b.length := layL_length b _ _ h1.2
  show (layAll (layD b x) ws).length = b.length
  rw [layAll_length ws (layD b x) (fun y hy => by rw [e]; exact h y (List.mem_cons_of_mem _ hy)), e]
theorem layAll_snoc (b : List Int) (ws : List S161) (x : S161) : layAll b (ws ++ [x]) = layD (layAll b ws) x := by
 unfold layAll
 rw [List.foldl_append]
 rfl
theorem T161_take (ws : List S161) (i : Nat) (h : i < ws.length) : ws.take (i + 1) = ws.take i ++ [rd_T161 ws (i : Int)] := by
 unfold rd_T161
 rw [Int.toNat_natCast, List.getD_eq_getElem?_getD, List.getElem?_eq_getElem h, List.take_add_one, List.getElem?_eq_getElem h]
 rfl
theorem T161_mem (ws : List S161) (i : Nat) (h : i < ws.length) : rd_T161 ws (i : Int) ∈ ws := by
 unfold rd_T161
 rw [Int.toNat_natCast, List.getD_eq_getElem?_getD, List.getElem?_eq_getElem h]
 exact List.getElem_mem h
theorem cut_bytes (gb n c : Nat) (j : Int) (h0 : 0 ≤ j) (hm : j ≤ n) : ∃ dp, dp = (if c = j.toNat then some (⟨gb, 0, none⟩ : Addr) else some ⟨gb, j.toNat, none⟩) ∧
  ∀ W : World, (Instr.slice 44 (.slice (some ⟨gb, 0, none⟩) n c) (some (.int .i64 j)) none none).run Try.prog W = .ok (.slice dp (n - j.toNat) (c - j.toNat)) W := by
 obtain ⟨i2, hi2, _, hsz2, _⟩ := info_parts info5
 refine ⟨_, rfl, fun W => ?_⟩
 have h := cut_from (P := Try.prog) 44 5 .i64 Try.underlying44 hi2 1 hsz2 (some ⟨gb, 0, none⟩) n c j h0 hm W
 have e : (if c = j.toNat then some (⟨gb, 0, none⟩ : Addr) else (some (⟨gb, 0, none⟩ : Addr)).map (·.add (j.toNat * 1))) = (if c = j.toNat then some ⟨gb, 0, none⟩ else some ⟨gb, j.toNat, none⟩) := by
  split
  ·rfl
  ·generalize j.toNat = m
   cases m with
   | zero => rfl
   | succ m => simp [Addr.add]
 rw [h, e]
section
variable {ops : Array Oper} {rest : List Oper} {o : Oper} {a : Act} {Q : Exit → Act → World → Prop}
theorem copy_run {W : World} (dO s : Operand) (ho : o.op = .call { callee := .builtin .copy, args := #[dO, s], argTypes := #[44, 44] }) (gb n c at_ : Nat) (A : Option Addr) (cs : Nat) (b xs : List Int) (sp : List Value)
  (dp : Option Addr) (hdp : dp = if c = at_ then some ⟨gb, 0, none⟩ else some ⟨gb, at_, none⟩) (hd : a.eval dO = .slice dp (n - at_) (c - at_)) (hs : a.eval s = .slice A xs.length cs) (hb : W.heap[gb]? = some (.cells (b.map (Value.int .u8) ++ sp).toArray 5 (0, 0)))
  (hn : b.length = n) (hnc : n ≤ c) (hfit : at_ + xs.length ≤ n) (hC : (Kd.int .u8).C W A xs.length xs) :
  ∃ w1, (execOp a.eval o).run Try.prog W = .ok (.value (goInt xs.length)) w1 ∧ w1.heap[gb]? = some (.cells ((layL b at_ xs).map (Value.int .u8) ++ sp).toArray 5 (0, 0)) ∧ Kept W w1 (fun k => k = gb) ∧ Below 0 W w1 := by
 by_cases h0 : xs.length = 0
 ·obtain rfl : xs = [] := List.eq_nil_of_length_eq_zero h0
  refine ⟨W, ?_, by rw [layL_nil]; exact hb, Kept.refl _ _, Below.refl _ _⟩
  have hrun := run_copy_none (P := Try.prog) W 44 44 o.type 5 dp A (n - at_) (c - at_) 0 cs Try.underlying44 info5size (by show min 0 _ = 0; omega)
  simp only [List.length_nil] at hs
  simp [execOp, ho, resolve, invoke, builtin, hd, hs, hrun, Result.andThen]
 ·have hne : c ≠ at_ := by omega
  rw [hdp, if_neg hne] at hd
  have hd' := hd
  obtain ⟨ad, he, _⟩ := Kd.at_int hC 0 (by omega) (by omega)
  subst he
  have hcl : (xs.map (Value.int .u8)).length = xs.length := List.length_map ..
  have e : ((b.map (Value.int .u8) ++ sp).toArray.toList.take at_ ++ (xs.map (Value.int .u8) ++ (b.map (Value.int .u8) ++ sp).toArray.toList.drop (at_ + xs.length))) = (layL b at_ xs).map (Value.int .u8) ++ sp := by
   unfold layL
   rw [List.map_append, List.map_append, List.map_take, List.map_drop, List.append_assoc, List.append_assoc]
   show List.take at_ (b.map (Value.int .u8) ++ sp) ++ (xs.map (Value.int .u8) ++ List.drop (at_ + xs.length) (b.map (Value.int .u8) ++ sp)) = _
   rw [List.take_append_of_le_length (by rw [List.length_map]; omega), List.drop_append_of_le_length (by rw [List.length_map]; omega)]
  have hrun := run_copy_row (P := Try.prog) W 44 44 o.type 5 gb at_ (n - at_) (c - at_) ad xs.length cs _ 5 (xs.map (Value.int .u8)) Try.underlying44 info5size hb (by rw [hcl]; exact (Nat.min_eq_left (by omega)).symm) (by
   intro j v hj
   have hjl : j < xs.length := by
    have := (List.getElem?_eq_some_iff.1 hj).1
    rwa [hcl] at this
   obtain ⟨ad', he', hc'⟩ := Kd.at_int hC (j : Int) (by omega) (by omega)
   obtain rfl : ad' = ad := by injection he' with he'; exact he'.symm
   rw [Int.toNat_natCast] at hc'
   rw [hc', ← hj, List.getElem?_map, List.getElem?_eq_getElem hjl]
   simp [rd, List.getD_eq_getElem?_getD, List.getElem?_eq_getElem hjl]) (by
   rw [hcl, List.size_toArray, List.length_append, List.length_map]
   omega) (by
   intro v hv
   obtain ⟨x, _, rfl⟩ := List.mem_map.1 hv
   rfl)
  rw [hcl, List.append_assoc, e] at hrun
  refine ⟨_, ?_, setRow_heap W gb _ _ 5 _ hb, ⟨by simp [World.setRow], fun k _ hk => setRow_other W gb k _ hk⟩, ⟨rfl, rfl, rfl, by simp [World.setRow], fun k hk => absurd hk (Nat.not_lt_zero _)⟩⟩
  simp [execOp, ho, resolve, invoke, builtin, hd', hs, hrun, Result.andThen]
theorem copy_step {Kc : Act → World → Prop} {W : World} (hw : Region.wanted o (yielded ops a.tmps) = true) (dO s : Operand) (ho : o.op = .call { callee := .builtin .copy, args := #[dO, s], argTypes := #[44, 44] }) (gb n c at_ : Nat) (A : Option Addr) (cs : Nat) (b xs : List Int) (sp : List Value)
  (dp : Option Addr) (hdp : dp = if c = at_ then some ⟨gb, 0, none⟩ else some ⟨gb, at_, none⟩) (hd : a.eval dO = .slice dp (n - at_) (c - at_)) (hs : a.eval s = .slice A xs.length cs) (hb : W.heap[gb]? = some (.cells (b.map (Value.int .u8) ++ sp).toArray 5 (0, 0)))
  (hn : b.length = n) (hnc : n ≤ c) (hfit : at_ + xs.length ≤ n) (hC : (Kd.int .u8).C W A xs.length xs)
  (h : ∀ w1, w1.heap[gb]? = some (.cells ((layL b at_ xs).map (Value.int .u8) ++ sp).toArray 5 (0, 0)) → Kept W w1 (fun k => k = gb) → Below 0 W w1 → Kc (a.put o.dst (goInt xs.length)) w1) :
  if Region.wanted o (yielded ops a.tmps) = true then Oper.wp Try.prog o a W Kc Q else Kc (a.put o.dst undef) W := by
 obtain ⟨w1, hr, hb1, hk, hz⟩ := copy_run dO s ho gb n c at_ A cs b xs sp dp hdp hd hs hb hn hnc hfit hC
 exact event_step hw hr (h w1 hb1 hk hz)
end
def put3.T : Bool × List (List Nat × List Nat) := (true, [([], []), ([0], [0]), ([1], [1]), ([2], [2]), ([], []), ([4], [4]), ([3, 5], [3, 5]), ([], []), ([7], [7]), ([6, 8], [6, 8])])
def put3.B : List Nat := [0, 1, 3, 7, 0, 16, 63, 0, 128, 511]
theorem put3.tab : rtab .any (opsOf Try.f126 3) = put3.T := by kernel_rfl
theorem put3.bits : waitsOk put3.T.2 put3.B = true := by kernel_rfl
structure Mid (S : Nat → Prop) (w : World) (g gb : Nat) (Aw : Option Addr) (cw : Nat) (d : D) (i : Nat) : Prop where
 hg : w.heap[g]? = some (.cells #[.slice (some ⟨gb, 0, none⟩) d.b.length d.b.length, .slice Aw d.ws.length cw, .bool d.dead, .int .i64 d.fuse] 151 (0, 0))
 hb : w.heap[gb]? = some (.cells (u8s (layAll d.b (d.ws.take i))) 5 (0, 0))
 hn : Kd.N k161 161 w 0 (fun k => S k ∧ k ≠ g ∧ k ≠ gb) (.slice Aw d.ws.length cw) d.ws
theorem Mid.below {S : Nat → Prop} {w w' : World} {g gb : Nat} {Aw : Option Addr} {cw : Nat} {d : D} {i : Nat} (h : Mid S w g gb Aw cw d i) (hb : Below w.heap.size w w') : Mid S w' g gb Aw cw d i := ⟨blk_below h.hg hb, blk_below h.hb hb, Kd.N_below h.hn hb⟩
set_option maxHeartbeats 8000000 in
set_option maxRecDepth 100000 in
theorem put_calls {S : Nat → Prop} {w : World} {g : Nat} {d : D} (h : Dev S w g d) (n : Nat) (hn : n ≤ d.ws.length) :
  Calls Try.prog 126 #[.pointer (some ⟨g, 0, none⟩), .int .i64 (n : Int)] w fun e w' => e = .returned (.tuple #[]) ∧ Dev S w' g ⟨layAll d.b (d.ws.take n), [], d.dead, d.fuse⟩ ∧ Went S w w' := by
 obtain ⟨gb, vw, h1, h2, h3, h4⟩ := h.parts
 obtain ⟨Aw, cw, rfl⟩ := Kd.N_slice h4
 have hcw : d.ws.length ≤ cw := (Kd.N_reads' h4).2.1
 have hmx : d.ws.length ≤ 9223372036854775807 := (Kd.N_reads' h4).2.2.2.1
 have hc1 : w.cell? ⟨g, 1, none⟩ = some (.slice Aw d.ws.length cw) := (blk_cell h1 1).trans rfl
 obtain ⟨i1, hi1, _, hsz1, _⟩ := info_parts info161
 obtain ⟨i2, hi2, _, hsz2, _⟩ := info_parts info5
 have hcut := cut_to (P := Try.prog) 149 161 .i64 Try.underlying149 hi1 Aw d.ws.length cw (n : Int) (by omega) (by omega) hcw
 rw [Int.toNat_natCast] at hcut
 have hdev := Aside0.mk h
 have HMID := Aside0.mk (Mid.mk (i := 0) h1 h3 h4 : Mid S w g gb Aw cw d 0)
 have HW := Aside0.mk (Went.refl S w)
 have HCW := Aside0.mk hcw
 have HMX := Aside0.mk hmx
 have HN := Aside0.mk hn
 have HS2 := Aside0.mk h2
 have hu161 := Try.underlying161
 clear h h1 h2 h3 h4 hcw hmx hn
 go_enter Try.func126, Try.ntmps126
 go_wp2_with fail
 go_loopg [13] n (fun kq v13 w' => ∃ i : Nat, v13 = .int .i64 (i : Int) ∧ Aside0 (i + kq = n) ∧ Aside0 (Mid S w' g gb Aw cw d i) ∧ Aside0 (Went S w w'))
 case atStart => exact ⟨0, rfl, ⟨Nat.zero_add _⟩, HMID, HW⟩
 case round =>
  clear HMID HW hc1 hcut
  obtain ⟨i, rfl, HK, HMID, HW⟩ := hrel
  cases gk with
  | zero =>
   have hin : i = n := by have := HK.out; omega
   have cb : decide ((i : Int) < (n : Int)) = false := decide_eq_false (by omega)
   have hf1 := blk_frozen HMID.out.hg 1
   have hc1 : wr.cell? ⟨g, 1, none⟩ = some (.slice Aw d.ws.length cw) := (blk_cell HMID.out.hg 1).trans rfl
   go_wp2_with fail
   go_end0
   have hfit : ∀ x ∈ d.ws.take n, 0 ≤ x.f0 ∧ x.f0.toNat + x.f1.length ≤ d.b.length := fun x hx => hdev.out.fits x (List.mem_of_mem_take hx)
   have hl := layAll_length (d.ws.take n) d.b hfit
   subst hin
   have hgb : gb ≠ g := blk_ne HMID.out.hb HMID.out.hg (by decide)
   refine ⟨rfl, ⟨hdev.out.has, fun k hk => ?_, ⟨gb, .slice none 0 0, ?_, HS2.out, blk_far HMID.out.hb hgb _, Kd.N_nil _ _ _ _ _⟩, ?_, ?_, fun x hx => by cases hx⟩, HW.out.set (.inl hdev.out.has) _⟩
   ·rw [size_set]
    exact Nat.lt_of_lt_of_le (hdev.out.lt k hk) HW.out.kept.1
   ·show _ = some (Obj.cells #[.slice (some ⟨gb, 0, none⟩) (layAll d.b (d.ws.take i)).length (layAll d.b (d.ws.take i)).length, .slice none 0 0, .bool d.dead, .int .i64 d.fuse] 151 (0, 0))
    rw [hl]
    exact blk_put HMID.out.hg 1 _ rfl
   ·show (layAll d.b (d.ws.take i)).length ≤ 1048576
    rw [hl]
    exact hdev.out.small
   ·show layAll d.b (d.ws.take i) ≠ []
    intro e
    rw [e] at hl
    exact hdev.out.some_ (List.eq_nil_of_length_eq_zero hl.symm)
  | succ k1 =>
   have hin : i < n := by have := HK.out; omega
   have cb : decide ((i : Int) < (n : Int)) = true := decide_eq_true (by omega)
   have hnn := HN.out
   have hlt : i < d.ws.length := by omega
   obtain ⟨ad, A1, c1, hA, hx0, hx1, hl1, hC1⟩ := at_T161 (Kd.N_reads' HMID.out.hn).2.2 (i : Int) (by omega) (by omega)
   subst hA
   have hfx := hdev.out.fits _ (T161_mem d.ws i hlt)
   have hsnoc := T161_take d.ws i hlt
   have hll := layAll_length (d.ws.take i) d.b (fun x hx => hdev.out.fits x (List.mem_of_mem_take hx))
   have hc0 : wr.cell? ⟨g, 0, none⟩ = some (.slice (some ⟨gb, 0, none⟩) d.b.length d.b.length) := (blk_cell HMID.out.hg 0).trans rfl
   have hc1 : wr.cell? ⟨g, 1, none⟩ = some (.slice (some ad) d.ws.length cw) := (blk_cell HMID.out.hg 1).trans rfl
   have p0 : (0 : Int) ≤ (i : Int) := by omega
   have q0 : (i : Int) < (d.ws.length : Int) := by omega
   replace p0 := eq_true p0
   replace q0 := eq_true q0
   have q1 : (i < n) = True := eq_true hin
   rw [Int.toNat_natCast] at hx0 hx1
   generalize rd_T161 d.ws (i : Int) = x at *
   have HX := Aside0.mk hC1
   have HFX := Aside0.mk hfx
   have HSN := Aside0.mk hsnoc
   have HLL := Aside0.mk hll
   have hin2 := Aside0.mk hin
   clear hC1 hfx hsnoc hll hnn hlt hin hl1
   go_wp2_with (first | ((with_reducible refine gate_dst (N := 5) rfl ?_); refine box_event ?hg (N := 5) ?hd (cs := #[.int .i64 0, .slice none 0 0]) (t := 161) ?hr ?_; (case hd => rfl); (case hg => rfl); (case hr => first | (go_simp; done) | (go_simp; rfl)); intro gx hgx w2 hbox hb; have BX := Aside0.mk hbox; have HB2 := Aside0.mk hb; have GX := Aside0.mk hgx; clear hbox hb hgx; have hy0 : w2.cell? ⟨gx, 0, none⟩ = some (.int .i64 0) := (blk_cell BX.out 0).trans rfl; have hy1 : w2.cell? ⟨gx, 1, none⟩ = some (.slice none 0 0) := (blk_cell BX.out 1).trans rfl; have hz0 := blk_frozen BX.out 0; have hz1 := blk_frozen BX.out 1) | ((with_reducible refine gate_store (t := 161) (p := 5) rfl ?_); refine store_event (t := 161) (p := 5) (v := ?vo) (w1 := ((w2.setCell ⟨gx, 0, none⟩ (.int .i64 x.f0)).setCell ⟨gx, 1, none⟩ (.slice A1 x.f1.length c1))) ?hg ?ho ?hn ?hr ?_; (case ho => rfl); (case hg => rfl); (case hn => rfl); (case hr => first | (go_simp; done) | (go_simp; rfl)); intro w3 hw3; have hb3 : Below wr.heap.size wr w3 := (by rw [hw3]; exact (HB2.out.setCell (by rw [GX.out]; exact Nat.le_refl _) _).setCell (by rw [GX.out]; exact Nat.le_refl _) _); have BX3 : w3.heap[gx]? = some (.cells #[.int .i64 x.f0, .slice A1 x.f1.length c1] 161 (0, 0)) := (by rw [hw3]; exact blk_put (blk_put BX.out 0 _ rfl) 1 _ rfl); have HB3 := Aside0.mk hb3; have M3 := Aside0.mk (HMID.out.below hb3); have HX3 := Aside0.mk (Kd.C_below HX.out hb3); have HW3 := Aside0.mk (HW.out.step hb3); clear hw3 hb3 hy0 hy1 hz0 hz1 BX HB2; have hy0 : w3.cell? ⟨gx, 0, none⟩ = some (.int .i64 x.f0) := (blk_cell BX3 0).trans rfl; have hy1 : w3.cell? ⟨gx, 1, none⟩ = some (.slice A1 x.f1.length c1) := (blk_cell BX3 1).trans rfl; have hg0 : w3.cell? ⟨g, 0, none⟩ = some (.slice (some ⟨gb, 0, none⟩) d.b.length d.b.length) := (blk_cell M3.out.hg 0).trans rfl; have BX3 := Aside0.mk BX3; obtain ⟨dp, hdp, hcut2⟩ := cut_bytes gb d.b.length d.b.length x.f0 HFX.out.1 (by have := HFX.out.2; have := HFX.out.1; omega); have HDP := Aside0.mk hdp; clear hdp))
   refine start_ (n := 10) (S := fun w' => w'.cell? ⟨g, 0, none⟩ = some (.slice (some ⟨gb, 0, none⟩) d.b.length d.b.length) ∧ w'.cell? ⟨gx, 0, none⟩ = some (.int .i64 x.f0) ∧ w'.cell? ⟨gx, 1, none⟩ = some (.slice A1 x.f1.length c1)) (ds := []) #[f_,f_,f_,f_,f_,f_,f_,f_,f_,f_] (by kernel_rfl) rfl rfl ⟨hg0, hy0, hy1⟩ (fun hHeld => ?_); refine with_tabW put3.tab put3.bits (fun HT_ HW_ => ?_)
   have M4 := Aside0.mk (M3.out.below (below_drew (Below.refl _ _))); have HX4 := Aside0.mk (Kd.C_drew HX3.out); have HW4 := Aside0.mk (HW3.out.step (below_drew (Below.refl _ _))); have BX4 := Aside0.mk (blk_drew BX3.out); clear M3 HX3 HW3 BX3; generalize w3.drew = w4 at M4 HX4 HW4 BX4 hHeld ⊢
   refine pure_ (i := 0) (N := some 17) (v := ?_) (a' := ?_) #[t_,f_,f_,f_,f_,f_,f_,f_,f_,f_] rfl rfl (any_of HT_.out (by kernel_rfl)) (fun _ _ _ h => h) (Or.inl ⟨by rfl, ?_⟩) ?_ ?_
   rotate_left
   ·intro w'
    go_simp
    with_reducible rfl
   rotate_left
   ·simp only [Act.put, sA, sZ, sS, i64_w, i32_w]
    rfl
   refine pure_ (i := 1) (N := some 18) (v := ?_) (a' := ?_) #[t_,t_,f_,f_,f_,f_,f_,f_,f_,f_] rfl rfl (any_of HT_.out (by kernel_rfl)) (fun _ _ _ h => h) (Or.inl ⟨by rfl, ?_⟩) ?_ ?_
   rotate_left
   ·intro w'
    go_simp
    with_reducible rfl
   rotate_left
   ·simp only [Act.put, sA, sZ, sS, i64_w, i32_w]
    rfl
   refine pure_ (i := 2) (N := some 19) (v := ?_) (a' := ?_) #[t_,t_,t_,f_,f_,f_,f_,f_,f_,f_] rfl rfl (any_of HT_.out (by kernel_rfl)) (fun _ _ _ h => h) (Or.inl ⟨by rfl, ?_⟩) ?_ ?_
   rotate_left
   ·intro w'
    go_simp
    with_reducible rfl
   rotate_left
   ·simp only [Act.put, sA, sZ, sS, i64_w, i32_w]
    rfl
   refine take_ (i := 3) (N := some 20) (v := ?_) (a' := ?_) #[t_,t_,t_,t_,f_,f_,f_,f_,f_,f_] rfl rfl (take_ofW HT_.out HW_.out (by kernel_rfl)) (fun _ _ _ h => h) (Or.inl ⟨by rfl, ?_⟩) hHeld ?_ ?_
   rotate_left
   ·rintro w' ⟨s0, s1, s2⟩
    go_simp
    with_reducible rfl
   rotate_left
   ·simp only [Act.put, sA, sZ, sS, i64_w, i32_w]
    rfl
   refine pure_ (i := 4) (N := some 21) (v := ?_) (a' := ?_) #[t_,t_,t_,t_,t_,f_,f_,f_,f_,f_] rfl rfl (any_of HT_.out (by kernel_rfl)) (fun _ _ _ h => h) (Or.inl ⟨by rfl, ?_⟩) ?_ ?_
   rotate_left
   ·intro w'
    go_simp
    with_reducible rfl
   rotate_left
   ·simp only [Act.put, sA, sZ, sS, i64_w, i32_w]
    rfl
   refine take_ (i := 5) (N := some 22) (v := ?_) (a' := ?_) #[t_,t_,t_,t_,t_,t_,f_,f_,f_,f_] rfl rfl (take_ofW HT_.out HW_.out (by kernel_rfl)) (fun _ _ _ h => h) (Or.inl ⟨by rfl, ?_⟩) hHeld ?_ ?_
   rotate_left
   ·rintro w' ⟨s0, s1, s2⟩
    go_simp
    with_reducible rfl
   rotate_left
   ·simp only [Act.put, sA, sZ, sS, i64_w, i32_w]
    rfl
   refine pure_ (i := 6) (N := some 23) (v := ?_) (a' := ?_) #[t_,t_,t_,t_,t_,t_,t_,f_,f_,f_] rfl rfl (any_of HT_.out (by kernel_rfl)) (fun _ _ _ h => h) (Or.inl ⟨by rfl, ?_⟩) ?_ ?_
   rotate_left
   ·intro w'
    go_simp
    with_reducible rfl
   rotate_left
   ·simp only [Act.put, sA, sZ, sS, i64_w, i32_w]
    rfl
   refine pure_ (i := 7) (N := some 24) (v := ?_) (a' := ?_) #[t_,t_,t_,t_,t_,t_,t_,t_,f_,f_] rfl rfl (any_of HT_.out (by kernel_rfl)) (fun _ _ _ h => h) (Or.inl ⟨by rfl, ?_⟩) ?_ ?_
   rotate_left
   ·intro w'
    go_simp
    with_reducible rfl
   rotate_left
   ·simp only [Act.put, sA, sZ, sS, i64_w, i32_w]
    rfl
   refine take_ (i := 8) (N := some 25) (v := ?_) (a' := ?_) #[t_,t_,t_,t_,t_,t_,t_,t_,t_,f_] rfl rfl (take_ofW HT_.out HW_.out (by kernel_rfl)) (fun _ _ _ h => h) (Or.inl ⟨by rfl, ?_⟩) hHeld ?_ ?_
   rotate_left
   ·rintro w' ⟨s0, s1, s2⟩
    go_simp
    with_reducible rfl
   rotate_left
   ·simp only [Act.put, sA, sZ, sS, i64_w, i32_w]
    rfl
   refine one_ (i := 9) (N := some 26) #[t_,t_,t_,t_,t_,t_,t_,t_,t_,t_] rfl rfl (one_of HT_.out (by kernel_rfl)) (by decide) (fun K hK => ?_)
   refine copy_step (by rfl) (.tmp 23) (.tmp 25) rfl gb d.b.length d.b.length x.f0.toNat A1 c1 (layAll d.b (d.ws.take i)) x.f1 [] dp HDP.out rfl rfl (by rw [List.append_nil]; exact M4.out.hb) HLL.out (Nat.le_refl _) HFX.out.2 HX4.out ?_
   intro w5 hb5 hk5 hz5
   have hgg : ∀ k, (fun k => k = gb) k → S k ∨ w.heap.size ≤ k := (fun k hk => .inl (by rw [show k = gb from hk]; exact HS2.out))
   have M5 := Aside0.mk (Mid.mk (i := i + 1) (blk_kept M4.out.hg hk5 (fun e => blk_ne M4.out.hb M4.out.hg (by decide) e.symm)) (by rw [HSN.out, layAll_snoc]; rw [List.append_nil] at hb5; exact hb5) (Kd.N_kept M4.out.hn hk5 (fun k hk => hk.2.2)) : Mid S w5 g gb (some ad) cw d (i + 1))
   have HW5 := Aside0.mk (HW4.out.trans ⟨hk5, hz5⟩ hgg)
   have BX5 := blk_kept BX4.out hk5 (fun e => blk_ne M4.out.hb BX4.out (by decide) e.symm)
   refine hK.out _ _ ⟨(blk_cell M5.out.hg 0).trans rfl, (blk_cell BX5 0).trans rfl, (blk_cell BX5 1).trans rfl⟩ (fun hHeld => ?_)
   clear hK K
   refine norm_ (a' := ?_) ?_ ?_
   rotate_left
   ·show Act.put _ (some 26) _ = _
    simp only [Act.put, sA, sZ, sS, i64_w, i32_w]
    rfl
   refine done_ (done_of HT_.out (by kernel_rfl)) ?_
   go_wp2_with fail
   go_roundg k1
   case measure => omega
   case rel => exact ⟨i + 1, (by have h_ : wrap64 ((i : Int) + 1) = ((i + 1 : Nat) : Int) := (by have := HN.out; have := HMX.out; have := hin2.out; unfold wrap64; omega); rw [h_]), ⟨by have := HK.out; omega⟩, M5, HW5⟩
end Go.Proofs.Ytccjdefhieilpaa.VT
namespace Go.Proofs.Ytccjdefhieilpaa.VT
open Go.RowKit Go.Proofs.YtccjdefhieilpaaW.PrintWords Go.Proofs.YtccjdefhieilpaaW.PrintLast Go.Proofs.YtccjdefhieilpaaW.PrintMore Go.Proofs.Ytccjdefhieilpaa.PB Go.Proofs.Ytccjdefhieilpaa.PL Go.Proofs.Ytccjdefhieilpaa.PG
attribute [local go_sem] max2_int min2_int max_two min_two max_three min_three max_four min_four   -- for this text's walks alone
set_option linter.unusedVariables false
set_option linter.unusedSimpArgs false
section
variable {ops : Array Oper} {rest : List Oper} {o : Oper} {a : Act} {Q : Exit → Act → World → Prop} {Kc : Act → World → Prop}
theorem lit_event {W : World} (hgd : o.guard = none) {N : Tmp} (_hd : o.dst = some N) {cs : Array Value} {t : TypeId} {m : Nat}
  (hrun : (execOp a.eval o).run Try.prog W = .ok (.value (.slice (some ⟨W.heap.size, 0, none⟩) m m)) (W.alloc (.cells cs t (0, 0))))
  (h : ∀ g, g = W.heap.size → ∀ w1, w1.heap[g]? = some (.cells cs t (0, 0)) → Below W.heap.size W w1 → wpList Try.prog ops Q rest (a.put o.dst (.slice (some ⟨g, 0, none⟩) m m)) w1) : wpList Try.prog ops Q (o :: rest) a W :=
 Kd.event_run hgd hrun (h _ rfl _ (blk_new W _) (below_alloc (Below.refl _ _) _))
theorem lit_step {W : World} (hw : Region.wanted o (yielded ops a.tmps) = true) {N : Tmp} (_hd : o.dst = some N) {cs : Array Value} {t : TypeId} {m : Nat}
  (hrun : (execOp a.eval o).run Try.prog W = .ok (.value (.slice (some ⟨W.heap.size, 0, none⟩) m m)) (W.alloc (.cells cs t (0, 0))))
  (h : ∀ g, g = W.heap.size → ∀ w1, w1.heap[g]? = some (.cells cs t (0, 0)) → Below W.heap.size W w1 → Kc (a.put o.dst (.slice (some ⟨g, 0, none⟩) m m)) w1) : if Region.wanted o (yielded ops a.tmps) = true then Oper.wp Try.prog o a W Kc Q else Kc (a.put o.dst undef) W :=
 event_step hw hrun (h _ rfl _ (blk_new W _) (below_alloc (Below.refl _ _) _))
theorem R_empty {W : World} {g base : Nat} (hg : W.heap[g]? = some (.cells #[] 5 (0, 0))) (hb : base ≤ g) : (Kd.int .u8).R 5 W base (fun k => base ≤ k) (.slice (some ⟨g, 0, none⟩) 0 0) [] :=
 Kd.R_of_own ⟨by simp [encs], .inr ⟨g, 0, #[], rfl, hb, hg, Nat.le_refl _, by unfold maxLen; omega, rfl, by simp [encs]⟩⟩ (fun k hk => by simp [Value.ownBlock] at hk; omega)
theorem bytes_copy {w0 W : World} (hgd : o.guard = none) (s x : Operand) (ho : o.op = .call { callee := .builtin .append, args := #[s, x], argTypes := #[44, 44] }) (g : Nat) (A : Option Addr) (c : Nat) (xs : List Int)
  (hs : a.eval s = .slice (some ⟨g, 0, none⟩) 0 0) (hx : a.eval x = .slice A xs.length c) (hg : W.heap[g]? = some (.cells #[] 5 (0, 0))) (hge : w0.heap.size ≤ g) (hB : Below w0.heap.size w0 W) (hC : (Kd.int .u8).C W A xs.length xs) (hl : xs.length ≤ 140737488355328)
  (h : ∀ v1 w1, (Kd.int .u8).R 5 w1 w0.heap.size (fun k => w0.heap.size ≤ k) v1 xs → Below w0.heap.size w0 w1 → wpList Try.prog ops Q rest (a.put o.dst v1) w1) : wpList Try.prog ops Q (o :: rest) a W :=
 Kd.R_append_rows (Kd.int .u8) (w0 := w0) w0.heap.size hgd s x 44 5 (.int .u8 0) 1 ho Try.underlying44 info5 rfl (by decide) (by omega) _ [] xs A xs.length c (fun k => w0.heap.size ≤ k) (fun _ => False) hs hx (R_empty hg hge) hC (fun _ _ h => h) (fun _ h => h.elim)
  (fun k hk => Nat.le_trans hB.size hk) hB hB.size (by simpa using hl) (fun v1 w1 hr hb _ _ => h v1 w1 hr hb)
theorem bytes_copy_step {w0 W : World} (hw : Region.wanted o (yielded ops a.tmps) = true) (s x : Operand) (ho : o.op = .call { callee := .builtin .append, args := #[s, x], argTypes := #[44, 44] }) (g : Nat) (A : Option Addr) (c : Nat) (xs : List Int)
  (hs : a.eval s = .slice (some ⟨g, 0, none⟩) 0 0) (hx : a.eval x = .slice A xs.length c) (hg : W.heap[g]? = some (.cells #[] 5 (0, 0))) (hge : w0.heap.size ≤ g) (hB : Below w0.heap.size w0 W) (hC : (Kd.int .u8).C W A xs.length xs) (hl : xs.length ≤ 140737488355328)
  (h : ∀ v1 w1, (Kd.int .u8).R 5 w1 w0.heap.size (fun k => w0.heap.size ≤ k) v1 xs → Below w0.heap.size w0 w1 → Kc (a.put o.dst v1) w1) : if Region.wanted o (yielded ops a.tmps) = true then Oper.wp Try.prog o a W Kc Q else Kc (a.put o.dst undef) W :=
 Kd.R_append_rows_step (Kd.int .u8) (w0 := w0) w0.heap.size hw s x 44 5 (.int .u8 0) 1 ho Try.underlying44 info5 rfl (by decide) (by omega) _ [] xs A xs.length c (fun k => w0.heap.size ≤ k) (fun _ => False) hs hx (R_empty hg hge) hC (fun _ _ h => h) (fun _ h => h.elim)
  (fun k hk => Nat.le_trans hB.size hk) hB hB.size (by simpa using hl) (fun v1 w1 hr hb _ _ => h v1 w1 hr hb)
end
theorem rawC {W : World} {g : Nat} {xs : List Int} {sp : List Value} (hg : W.heap[g]? = some (.cells (xs.map (Value.int .u8) ++ sp).toArray 5 (0, 0))) (hl : xs.length + sp.length ≤ 9223372036854775807) : (Kd.int .u8).C W (some ⟨g, 0, none⟩) xs.length xs := by
 have h : (Kd.int .u8).R 5 W 0 (fun _ => True) (.slice (some ⟨g, 0, none⟩) xs.length (xs.length + sp.length)) xs := Kd.R_of_own ⟨by simp [encs], .inr ⟨g, xs.length + sp.length, (xs.map (Value.int .u8) ++ sp).toArray, rfl, Nat.zero_le _, hg, Nat.le_add_right _ _, by unfold maxLen; omega, by simp, by simp [encs]⟩⟩ (fun _ _ => trivial)
 exact (Kd.R_reads' h).2.2
theorem Dev.mkB {S : Nat → Prop} {w : World} {g : Nat} {d : D} (has : S g) (parts : ∃ gb vw, w.heap[g]? = some (.cells #[.slice (some ⟨gb, 0, none⟩) d.b.length d.b.length, vw, .bool d.dead, .int .i64 d.fuse] 151 (0, 0)) ∧ S gb ∧ w.heap[gb]? = some (.cells (u8s d.b) 5 (0, 0)) ∧
  Kd.N k161 161 w 0 (fun k => S k ∧ k ≠ g ∧ k ≠ gb) vw d.ws) (small : d.b.length ≤ 1048576) (some_ : d.b ≠ []) (fits : ∀ x ∈ d.ws, 0 ≤ x.f0 ∧ x.f0.toNat + x.f1.length ≤ d.b.length) : Dev (fun k => S k ∧ k < w.heap.size) w g d := by
 obtain ⟨gb, vw, h1, h2, h3, h4⟩ := parts
 exact ⟨⟨has, blk_lt h1⟩, fun k hk => hk.2, ⟨gb, vw, h1, ⟨h2, blk_lt h3⟩, h3, Kd.N_mono (Kd.N_bound h4) (fun k hk => ⟨⟨hk.1.1, hk.2⟩, hk.1.2⟩)⟩, small, some_, fits⟩
def armD (d : D) (n : Int) : D := ⟨d.b, d.ws, d.dead, if 0 ≤ n ∧ n < 4611686018427387904 then n + 1 else 0⟩
set_option maxHeartbeats 8000000 in
set_option maxRecDepth 100000 in
theorem arm_calls {S : Nat → Prop} {w : World} {g : Nat} {d : D} (h : Dev S w g d) (n : Int) :
  Calls Try.prog 65 #[.pointer (some ⟨g, 0, none⟩), .int .i64 n] w fun e w' => e = .returned (.tuple #[]) ∧ Dev S w' g (armD d n) ∧ Went S w w' := by
 have hdev := Aside0.mk h
 clear h
 go_enter Try.func65, Try.ntmps65
 go_wp2_with fail
 refine (none_calls hdev.out).mono ?_
 rintro e w1 ⟨rfl, hb⟩
 have hd1 := Aside0.mk (hdev.out.below hb)
 have HB := Aside0.mk hb
 obtain ⟨gb, vw, h1, _⟩ := hd1.out.parts
 have hc3 : w1.cell? ⟨g, 3, none⟩ = some (.int .i64 d.fuse) := (blk_cell h1 3).trans rfl
 have hf3 := blk_frozen h1 3
 clear h1 hb
 by_cases c1 : 0 ≤ n
 ·have cb1 : decide (0 ≤ n) = true := decide_eq_true c1
  by_cases c2 : n < 4611686018427387904
  ·have cb2 : decide (n < 4611686018427387904) = true := decide_eq_true c2
   have hE : Aside0 (armD d n = ⟨d.b, d.ws, d.dead, n + 1⟩) := ⟨by unfold armD; rw [if_pos ⟨c1, c2⟩]⟩
   go_wp2_with fail
   go_end0
   exact ⟨rfl, by rw [hE.out]; exact (hd1.out.set3 0).set3 _, (((Went.of_below HB.out : Went S w w1)).set (.inl hd1.out.has) _).set (.inl hd1.out.has) _⟩
  ·have cb2 : decide (n < 4611686018427387904) = false := decide_eq_false c2
   have hE : Aside0 (armD d n = ⟨d.b, d.ws, d.dead, 0⟩) := ⟨by unfold armD; rw [if_neg (fun h => c2 h.2)]⟩
   go_wp2_with fail
   go_end0
   exact ⟨rfl, by rw [hE.out]; exact hd1.out.set3 0, ((Went.of_below HB.out : Went S w w1)).set (.inl hd1.out.has) _⟩
 ·have cb1 : decide (0 ≤ n) = false := decide_eq_false c1
  have hE : Aside0 (armD d n = ⟨d.b, d.ws, d.dead, 0⟩) := ⟨by unfold armD; rw [if_neg (fun h => c1 h.1)]⟩
  go_wp2_with fail
  go_end0
  exact ⟨rfl, by rw [hE.out]; exact hd1.out.set3 0, ((Went.of_below HB.out : Went S w w1)).set (.inl hd1.out.has) _⟩
def flushD (d : D) : D × Int :=
 if powerD d 0 0 = 0 then (if (burnD d).2 = 0 then (⟨layAll d.b d.ws, [], (burnD d).1.dead, (burnD d).1.fuse⟩, 0) else burnD d) else (d, powerD d 0 0)
theorem burnD_bw (d : D) : (burnD d).1.b = d.b ∧ (burnD d).1.ws = d.ws := by
 unfold burnD
 split
 ·exact ⟨rfl, rfl⟩
 ·split <;> exact ⟨rfl, rfl⟩
set_option maxHeartbeats 8000000 in
set_option maxRecDepth 100000 in
theorem flush_calls {S : Nat → Prop} {w : World} {g : Nat} {d : D} (h : Dev S w g d) :
  Calls Try.prog 81 #[.pointer (some ⟨g, 0, none⟩)] w fun e w' => e = .returned (.int .i64 (flushD d).2) ∧ Dev S w' g (flushD d).1 ∧ Went S w w' := by
 have hdev := Aside0.mk h
 clear h
 go_enter Try.func81, Try.ntmps81
 go_wp2_with fail
 refine (power_calls hdev.out 0 0).mono ?_
 rintro e w1 ⟨rfl, hb⟩
 have hd1 := Aside0.mk (hdev.out.below hb)
 have HB := Aside0.mk hb
 clear hb
 by_cases c : powerD d 0 0 = 0
 ·have cb : (powerD d 0 0 != 0) = false := bne_eq_false_iff_eq.mpr c
  go_wp2_with fail
  refine (burn_calls hd1.out).mono ?_
  rintro e w2 ⟨rfl, hd2, hw2⟩
  have HD2 := Aside0.mk hd2
  have HW2 := Aside0.mk (show Went S w w2 from (Went.of_below HB.out : Went S w w1).trans hw2 (fun k hk => .inl hk))
  clear hd2 hw2
  by_cases c2 : (burnD d).2 = 0
  ·have cb2 : ((burnD d).2 != 0) = false := bne_eq_false_iff_eq.mpr c2
   obtain ⟨gb, vw, h1, _, _, h4⟩ := HD2.out.parts
   obtain ⟨Aw, cw, rfl⟩ := Kd.N_slice h4
   have hc1 : w2.cell? ⟨g, 1, none⟩ = some (.slice Aw (burnD d).1.ws.length cw) := (blk_cell h1 1).trans rfl
   clear h1 h4
   go_wp2_with fail
   refine (put_calls HD2.out (burnD d).1.ws.length (Nat.le_refl _)).mono ?_
   rintro e w3 ⟨rfl, hd3, hw3⟩
   have HD3 := Aside0.mk hd3
   have HW3 := Aside0.mk (HW2.out.trans hw3 (fun k hk => .inl hk))
   clear hd3 hw3
   have hE : Aside0 (flushD d = (⟨layAll d.b d.ws, [], (burnD d).1.dead, (burnD d).1.fuse⟩, 0)) := ⟨by unfold flushD; rw [if_pos c, if_pos c2]⟩
   go_wp2_with fail
   go_ret
   refine ⟨by rw [hE.out]; rfl, ?_, HW3.out⟩
   have hd := HD3.out
   rw [(burnD_bw d).1, (burnD_bw d).2, List.take_length] at hd
   rw [hE.out]
   exact hd
  ·have cb2 : ((burnD d).2 != 0) = true := bne_iff_ne.mpr c2
   have hE : Aside0 (flushD d = burnD d) := ⟨by unfold flushD; rw [if_pos c, if_neg c2]⟩
   go_wp2_with fail
   go_ret
   refine ⟨by rw [hE.out]; rfl, by rw [hE.out]; exact HD2.out, HW2.out⟩
 ·have cb : (powerD d 0 0 != 0) = true := bne_iff_ne.mpr c
  have hE : Aside0 (flushD d = (d, powerD d 0 0)) := ⟨by unfold flushD; rw [if_neg c]⟩
  go_wp2_with fail
  go_ret
  exact ⟨by rw [hE.out]; rfl, by rw [hE.out]; exact hd1.out, Went.of_below HB.out⟩
def crashD (d : D) (n : Int) : D := ⟨layAll d.b (d.ws.take n.toNat), [], false, 0⟩
set_option maxHeartbeats 8000000 in
set_option maxRecDepth 100000 in
theorem crash_calls {S : Nat → Prop} {w : World} {g : Nat} {d : D} (h : Dev S w g d) (n : Int) :
  Calls Try.prog 66 #[.pointer (some ⟨g, 0, none⟩), .int .i64 n] w fun e w' => e = .returned (.tuple #[]) ∧ Dev S w' g (crashD d n) ∧ Went S w w' := by
 have hdev := Aside0.mk h
 clear h
 go_enter Try.func66, Try.ntmps66
 go_wp2_with fail
 refine (none_calls hdev.out).mono ?_
 rintro e w1 ⟨rfl, hb⟩
 have hd1 := Aside0.mk (hdev.out.below hb)
 have HB := Aside0.mk hb
 obtain ⟨gb, vw, h1, _, _, h4⟩ := hd1.out.parts
 obtain ⟨Aw, cw, rfl⟩ := Kd.N_slice h4
 have hc1 : w1.cell? ⟨g, 1, none⟩ = some (.slice Aw d.ws.length cw) := (blk_cell h1 1).trans rfl
 clear h1 h4 hb
 have hE : Aside0 (crashD d n = ⟨layAll d.b (d.ws.take n.toNat), [], false, 0⟩) := ⟨rfl⟩
 by_cases c1 : (d.ws.length : Int) < n
 ·have p1 : ((d.ws.length : Int) < n) = True := eq_true c1
  have ht : d.ws.take n.toNat = d.ws.take d.ws.length := by rw [List.take_of_length_le (by omega), List.take_of_length_le (Nat.le_refl _)]
  by_cases c2 : 0 < d.ws.length
  ·have p2 : (0 < d.ws.length) = True := eq_true c2
   have hput := Aside0.mk (put_calls hd1.out d.ws.length (by omega))
   go_wp2_with fail
   refine hput.out.mono ?_
   rintro e w2 ⟨rfl, hd2, hw2⟩
   have HD2 := Aside0.mk hd2
   have HW2 := Aside0.mk (show Went S w w2 from (Went.of_below HB.out : Went S w w1).trans hw2 (fun k hk => .inl hk))
   obtain ⟨gb2, vw2, h1, _⟩ := hd2.parts
   have hc2 : w2.cell? ⟨g, 2, none⟩ = some (.bool d.dead) := (blk_cell h1 2).trans rfl
   have hc3 : w2.cell? ⟨g, 3, none⟩ = some (.int .i64 d.fuse) := (blk_cell h1 3).trans rfl
   have hf2 := blk_frozen h1 2
   have hf3 := blk_frozen h1 3
   clear hd2 hw2 h1
   go_wp2_with fail
   go_end0
   refine ⟨rfl, ?_, (HW2.out.set (.inl HD2.out.has) _).set (.inl HD2.out.has) _⟩
   have hd := (HD2.out.set2 false).set3 0
   rw [hE.out, ht]
   exact hd
  ·have p2 : d.ws.length = 0 := by omega
   have hl : d.ws = [] := List.eq_nil_of_length_eq_zero p2
   have p3 : ((d.ws.length : Int)) = 0 := by omega
   have p4 : (0 < n) = True := eq_true (by omega)
   have hput := Aside0.mk (put_calls hd1.out 0 (by omega))
   go_wp2_with fail
   refine hput.out.mono ?_
   rintro e w2 ⟨rfl, hd2, hw2⟩
   have HD2 := Aside0.mk hd2
   have HW2 := Aside0.mk (show Went S w w2 from (Went.of_below HB.out : Went S w w1).trans hw2 (fun k hk => .inl hk))
   obtain ⟨gb2, vw2, h1, _⟩ := hd2.parts
   have hc2 : w2.cell? ⟨g, 2, none⟩ = some (.bool d.dead) := (blk_cell h1 2).trans rfl
   have hc3 : w2.cell? ⟨g, 3, none⟩ = some (.int .i64 d.fuse) := (blk_cell h1 3).trans rfl
   have hf2 := blk_frozen h1 2
   have hf3 := blk_frozen h1 3
   clear hd2 hw2 h1
   go_wp2_with fail
   go_end0
   refine ⟨rfl, ?_, (HW2.out.set (.inl HD2.out.has) _).set (.inl HD2.out.has) _⟩
   have hd := (HD2.out.set2 false).set3 0
   rw [hE.out, hl, List.take_nil]; rw [hl, List.take_nil] at hd
   exact hd
 ·have p1 : ((d.ws.length : Int) < n) = False := eq_false c1
  by_cases c2 : 0 < n
  ·have p2 : (0 < n) = True := eq_true c2
   obtain ⟨m, rfl⟩ : ∃ m : Nat, n = (m : Int) := ⟨n.toNat, by omega⟩
   have hput := Aside0.mk (put_calls hd1.out m (by omega))
   go_wp2_with fail
   refine hput.out.mono ?_
   rintro e w2 ⟨rfl, hd2, hw2⟩
   have HD2 := Aside0.mk hd2
   have HW2 := Aside0.mk (show Went S w w2 from (Went.of_below HB.out : Went S w w1).trans hw2 (fun k hk => .inl hk))
   obtain ⟨gb2, vw2, h1, _⟩ := hd2.parts
   have hc2 : w2.cell? ⟨g, 2, none⟩ = some (.bool d.dead) := (blk_cell h1 2).trans rfl
   have hc3 : w2.cell? ⟨g, 3, none⟩ = some (.int .i64 d.fuse) := (blk_cell h1 3).trans rfl
   have hf2 := blk_frozen h1 2
   have hf3 := blk_frozen h1 3
   clear hd2 hw2 h1
   go_wp2_with fail
   go_end0
   refine ⟨rfl, ?_, (HW2.out.set (.inl HD2.out.has) _).set (.inl HD2.out.has) _⟩
   have hd := (HD2.out.set2 false).set3 0
   rw [hE.out, Int.toNat_natCast]
   exact hd
  ·have p2 : (0 < n) = False := eq_false c2
   have ht : n.toNat = 0 := by omega
   have hput := Aside0.mk (put_calls hd1.out 0 (by omega))
   go_wp2_with fail
   refine hput.out.mono ?_
   rintro e w2 ⟨rfl, hd2, hw2⟩
   have HD2 := Aside0.mk hd2
   have HW2 := Aside0.mk (show Went S w w2 from (Went.of_below HB.out : Went S w w1).trans hw2 (fun k hk => .inl hk))
   obtain ⟨gb2, vw2, h1, _⟩ := hd2.parts
   have hc2 : w2.cell? ⟨g, 2, none⟩ = some (.bool d.dead) := (blk_cell h1 2).trans rfl
   have hc3 : w2.cell? ⟨g, 3, none⟩ = some (.int .i64 d.fuse) := (blk_cell h1 3).trans rfl
   have hf2 := blk_frozen h1 2
   have hf3 := blk_frozen h1 3
   clear hd2 hw2 h1
   go_wp2_with fail
   go_end0
   refine ⟨rfl, ?_, (HW2.out.set (.inl HD2.out.has) _).set (.inl HD2.out.has) _⟩
   have hd := (HD2.out.set2 false).set3 0
   rw [hE.out, ht]
   exact hd
theorem madeU8 (n : Nat) : madeCells #[Value.int .u8 0] n = u8s (List.replicate n 0) := by
 apply Array.toList_inj.1
 rw [toList_madeCells_one]
 simp [u8s]
def newD (n : Nat) : D := ⟨List.replicate n 0, [], false, 0⟩
set_option maxHeartbeats 8000000 in
set_option maxRecDepth 100000 in
theorem new_calls (w : World) (n : Nat) (h1 : 1 ≤ n) (h2 : n ≤ 1048576) :
  Calls Try.prog 60 #[.int .i64 (n : Int)] w fun e w' => ∃ g S, e = .returned (.pointer (some ⟨g, 0, none⟩)) ∧ Dev S w' g (newD n) ∧ (∀ k, S k → w.heap.size ≤ k) ∧ Below w.heap.size w w' := by
 have cb1 : decide ((n : Int) < 1) = false := decide_eq_false (by omega)
 have cb2 : decide ((1048576 : Int) < (n : Int)) = false := decide_eq_false (by omega)
 have H1 := Aside0.mk h1
 have H2 := Aside0.mk h2
 have hu := Try.underlying151
 clear h1 h2
 go_enter Try.func60, Try.ntmps60
 go_wp2_with (first | ((with_reducible refine gate_dst (N := 10) rfl ?_); refine make_event rfl (.tmp 9) rfl n H2.out rfl ?_; intro gb hgb w2 hb2 hz2; have HB := Aside0.mk hb2; have HZ := Aside0.mk hz2; have GB := Aside0.mk hgb; clear hb2 hz2 hgb) | ((with_reducible refine gate_dst (N := 12) rfl ?_); refine box_event ?hg (N := 12) ?hd (cs := #[.slice (some ⟨gb, 0, none⟩) n n, .slice none 0 0, .bool false, .int .i64 0]) (t := 151) ?hr ?_; (case hd => rfl); (case hg => rfl); (case hr => first | (go_simp; done) | (go_simp; rfl)); intro g hg w3 hb3 hz3; have HX := Aside0.mk hb3; have HZ3 := Aside0.mk hz3; have GX := Aside0.mk hg; clear hb3 hz3 hg))
 go_ret
 have hz := below_step HZ.out HZ3.out
 refine ⟨g, fun k => (w.heap.size ≤ k) ∧ k < w3.heap.size, rfl, ⟨⟨?_, blk_lt HX.out⟩, fun k hk => hk.2, ⟨gb, .slice none 0 0, ?_, ⟨?_, ?_⟩, ?_, Kd.N_nil _ _ _ _ _⟩, ?_, ?_, fun x hx => by cases hx⟩, fun k hk => hk.1, hz⟩
 ·rw [GX.out]; exact HZ.out.size
 ·show _ = some (Obj.cells #[.slice (some ⟨gb, 0, none⟩) (List.replicate n (0 : Int)).length (List.replicate n (0 : Int)).length, .slice none 0 0, .bool false, .int .i64 0] 151 (0, 0))
  rw [List.length_replicate]
  exact HX.out
 ·rw [GB.out]; exact Nat.le_refl _
 ·exact blk_lt (blk_below HB.out HZ3.out)
 ·have := blk_below HB.out HZ3.out
  rw [madeU8] at this
  exact this
 ·show (List.replicate n (0 : Int)).length ≤ 1048576
  rw [List.length_replicate]
  exact H2.out
 ·show List.replicate n (0 : Int) ≠ []
  intro e
  have := congrArg List.length e
  rw [List.length_replicate] at this
  have := H1.out
  simp at *
  omega
end Go.Proofs.Ytccjdefhieilpaa.VT
namespace Go.Proofs.Ytccjdefhieilpaa.VT
open Go.RowKit Go.Proofs.YtccjdefhieilpaaW.PrintWords Go.Proofs.YtccjdefhieilpaaW.PrintLast Go.Proofs.YtccjdefhieilpaaW.PrintMore Go.Proofs.Ytccjdefhieilpaa.PB Go.Proofs.Ytccjdefhieilpaa.PL Go.Proofs.Ytccjdefhieilpaa.PG
attribute [local go_sem] max2_int min2_int max_two min_two max_three min_three max_four min_four   -- for this text's walks alone
set_option linter.unusedVariables false
set_option linter.unusedSimpArgs false
def write7.T : Bool × List (List Nat × List Nat) := (true, [([], []), ([], []), ([1], [1]), ([2], [2]), ([3], [3]), ([], []), ([], []), ([], []), ([6, 7], [6, 7]), ([5, 8], [5, 8]), ([9], [9]), ([4, 10, 8], [4, 10]), ([0, 0, 1, 2, 3, 4, 5, 6, 7, 8, 9, 10, 11], [0]), ([12, 0, 1, 2, 3, 4, 5, 6, 7, 8, 9, 10, 11], [12]), ([13, 11, 11, 0, 1, 2, 3, 4, 5, 6, 7, 8, 9, 10, 11], [11, 13])])
def write7.B : List Nat := [0, 0, 2, 6, 14, 0, 0, 0, 192, 480, 992, 2046, 4095, 8191, 16383]
theorem write7.tab : rtab .any (opsOf Try.f77 7) = write7.T := by kernel_rfl
theorem write7.bits : waitsOk write7.T.2 write7.B = true := by kernel_rfl
def writeD (d : D) (a : Int) (xs : List Int) : D × Int :=
 if powerD d a xs.length = 0 then (if (burnD d).2 = 0 then (⟨d.b, d.ws ++ [⟨a, xs⟩], (burnD d).1.dead, (burnD d).1.fuse⟩, 0) else burnD d) else (d, powerD d a xs.length)
theorem powerD_ok {d : D} {a n : Int} (h : powerD d a n = 0) (hl : d.b.length ≤ 1048576) : d.dead = false ∧ 0 ≤ a ∧ 0 ≤ n ∧ a + n ≤ d.b.length := by
 unfold powerD at h
 split at h
 ·cases h
 ·rename_i h1
  split at h
  ·cases h
  ·split at h
   ·cases h
   ·split at h
    ·cases h
    ·rename_i h2 h3 h4
     split at h
     ·cases h
     ·rename_i h5
      have : wrap64 ((d.b.length : Int) - a) = (d.b.length : Int) - a := by unfold wrap64; omega
      rw [this] at h5
      exact ⟨Bool.eq_false_iff.2 h1, by omega, by omega, by omega⟩
set_option maxHeartbeats 8000000 in
set_option maxRecDepth 100000 in
theorem write_calls {S : Nat → Prop} {w : World} {g : Nat} {d : D} (h : Dev S w g d) (a : Int) (A : Option Addr) (c : Nat) (xs : List Int) (hF : Kd.F (Kd.int .u8) w (fun k => ¬ S k) A xs.length xs) (hc : xs.length ≤ c) (hws : d.ws.length ≤ 1000000) :
  Calls Try.prog 77 #[.pointer (some ⟨g, 0, none⟩), .int .i64 a, .slice A xs.length c] w fun e w' => e = .returned (.int .i64 (writeD d a xs).2) ∧ Went S w w' ∧ ∃ S', Dev S' w' g (writeD d a xs).1 ∧ ∀ k, S' k → S k ∨ w.heap.size ≤ k := by
 have hdev := Aside0.mk h
 have HF := Aside0.mk hF
 have HWS := Aside0.mk hws
 clear h hF hws
 go_enter Try.func77, Try.ntmps77
 go_wp2_with fail
 refine (power_calls hdev.out a xs.length).mono ?_
 rintro e w1 ⟨rfl, hb⟩
 have hd1 := Aside0.mk (hdev.out.below hb)
 have HB := Aside0.mk hb
 have HF1 := Aside0.mk (Kd.F_below HF.out hb)
 clear hb
 by_cases c1 : powerD d a xs.length = 0
 ·have cb : (powerD d a xs.length != 0) = false := bne_eq_false_iff_eq.mpr c1
  have hok := Aside0.mk (powerD_ok c1 hdev.out.small)
  go_wp2_with fail
  refine (burn_calls hd1.out).mono ?_
  rintro e w2 ⟨rfl, hd2, hw2⟩
  have HD2 := Aside0.mk hd2
  have HW2 := Aside0.mk (show Went S w w2 from (Went.of_below HB.out : Went S w w1).trans hw2 (fun k hk => .inl hk))
  have HF2 := Aside0.mk (Kd.F_kept HF1.out hw2.kept (fun k hk => hk))
  clear hd2 hw2
  by_cases c2 : (burnD d).2 = 0
  ·have cb2 : ((burnD d).2 != 0) = false := bne_eq_false_iff_eq.mpr c2
   obtain ⟨gb, vw, h1, h2, h3, h4⟩ := HD2.out.parts
   obtain ⟨Aw, cw, rfl⟩ := Kd.N_slice h4
   have hbw := burnD_bw d
   have hE : Aside0 (writeD d a xs = (⟨d.b, d.ws ++ [⟨a, xs⟩], (burnD d).1.dead, (burnD d).1.fuse⟩, 0)) := ⟨by unfold writeD; rw [if_pos c1, if_pos c2]⟩
   rw [hbw.1, hbw.2] at h1
   rw [hbw.2] at h4
   rw [hbw.1] at h3
   have H1 := Aside0.mk h1
   have H2 := Aside0.mk h2
   have H3 := Aside0.mk h3
   have H4 := Aside0.mk h4
   clear h1 h2 h3 h4 hbw
   go_wp2_with fail
   refine start_ (n := 15) (S := fun w' => w'.cell? ⟨g, 1, none⟩ = some (.slice Aw d.ws.length cw)) (ds := [14]) #[f_,f_,f_,f_,f_,f_,f_,f_,f_,f_,f_,f_,f_,f_,f_] (by kernel_rfl) rfl rfl ((blk_cell H1.out 1).trans rfl) (fun hHeld => ?_); refine with_tabW write7.tab write7.bits (fun HT_ HW_ => ?_)
   have H1' := Aside0.mk (blk_drew H1.out); have H3' := Aside0.mk (blk_drew H3.out); have H4' := Aside0.mk (Kd.N_drew H4.out); have HW' := Aside0.mk (HW2.out.step (below_drew (Below.refl _ _))); have HF' := Aside0.mk (Kd.F_drew HF2.out); have hlt' := Aside0.mk (show ∀ k, S k → k < w2.drew.heap.size from HD2.out.lt); clear H1 H3 H4 HW2 HF2; generalize w2.drew = w3 at H1' H3' H4' HW' HF' hlt' hHeld ⊢
   refine pure_ (i := 0) (N := some 22) (v := ?_) (a' := ?_) #[t_,f_,f_,f_,f_,f_,f_,f_,f_,f_,f_,f_,f_,f_,f_] rfl rfl (any_of HT_.out (by kernel_rfl)) (fun _ _ _ h => h) (Or.inl ⟨by rfl, ?_⟩) ?_ ?_
   rotate_left
   ·intro w'
    go_simp
    with_reducible rfl
   rotate_left
   ·simp only [Act.put, sA, sZ, sS, i64_w, i32_w]
    rfl
   refine pure_ (i := 1) (N := some 23) (v := ?_) (a' := ?_) #[t_,t_,f_,f_,f_,f_,f_,f_,f_,f_,f_,f_,f_,f_,f_] rfl rfl (any_of HT_.out (by kernel_rfl)) (fun _ _ _ h => h) (Or.inl ⟨by rfl, ?_⟩) ?_ ?_
   rotate_left
   ·intro w'
    go_simp
    with_reducible rfl
   rotate_left
   ·simp only [Act.put, sA, sZ, sS, i64_w, i32_w]
    rfl
   refine pure_ (i := 2) (N := some 24) (v := ?_) (a' := ?_) #[t_,t_,t_,f_,f_,f_,f_,f_,f_,f_,f_,f_,f_,f_,f_] rfl rfl (any_of HT_.out (by kernel_rfl)) (fun _ _ _ h => h) (Or.inl ⟨by rfl, ?_⟩) ?_ ?_
   rotate_left
   ·intro w'
    go_simp
    with_reducible rfl
   rotate_left
   ·simp only [Act.put, sA, sZ, sS, i64_w, i32_w]
    rfl
   refine pure_ (i := 3) (N := some 25) (v := ?_) (a' := ?_) #[t_,t_,t_,t_,f_,f_,f_,f_,f_,f_,f_,f_,f_,f_,f_] rfl rfl (any_of HT_.out (by kernel_rfl)) (fun _ _ _ h => h) (Or.inl ⟨by rfl, ?_⟩) ?_ ?_
   rotate_left
   ·intro w'
    go_simp
    with_reducible rfl
   rotate_left
   ·simp only [Act.put, sA, sZ, sS, i64_w, i32_w]
    rfl
   refine take_ (i := 4) (N := some 26) (v := ?_) (a' := ?_) #[t_,t_,t_,t_,t_,f_,f_,f_,f_,f_,f_,f_,f_,f_,f_] rfl rfl (take_ofW HT_.out HW_.out (by kernel_rfl)) (fun _ _ _ h => h) (Or.inl ⟨by rfl, ?_⟩) hHeld ?_ ?_
   rotate_left
   ·rintro w' s0
    go_simp
    with_reducible rfl
   rotate_left
   ·simp only [Act.put, sA, sZ, sS, i64_w, i32_w]
    rfl
   refine pure_ (i := 5) (N := some 27) (v := ?_) (a' := ?_) #[t_,t_,t_,t_,t_,t_,f_,f_,f_,f_,f_,f_,f_,f_,f_] rfl rfl (any_of HT_.out (by kernel_rfl)) (fun _ _ _ h => h) (Or.inl ⟨by rfl, ?_⟩) ?_ ?_
   rotate_left
   ·intro w'
    go_simp
    with_reducible rfl
   rotate_left
   ·simp only [Act.put, sA, sZ, sS, i64_w, i32_w]
    rfl
   refine pure_ (i := 7) (N := some 29) (v := ?_) (a' := ?_) #[t_,t_,t_,t_,t_,t_,f_,t_,f_,f_,f_,f_,f_,f_,f_] rfl rfl (any_of HT_.out (by kernel_rfl)) (fun _ _ _ h => h) (Or.inl ⟨by rfl, ?_⟩) ?_ ?_
   rotate_left
   ·intro w'
    go_simp
    with_reducible rfl
   rotate_left
   ·simp only [Act.put, sA, sZ, sS, i64_w, i32_w]
    rfl
   refine one_ (i := 6) (N := some 28) #[t_,t_,t_,t_,t_,t_,t_,t_,f_,f_,f_,f_,f_,f_,f_] rfl rfl (one_of HT_.out (by kernel_rfl)) (by decide) (fun K hK => ?_)
   refine lit_step (by rfl) (N := 28) ?hd (cs := #[]) (t := 5) (m := 0) ?hr ?_; (case hd => rfl); (case hr => first | (go_simp; done) | (go_simp; rfl))
   intro gl hgl w4 hl4 hb4
   have HL := Aside0.mk hl4
   have G1 := Aside0.mk (blk_below H1'.out hb4)
   have G3 := Aside0.mk (blk_below H3'.out hb4)
   have G4 := Aside0.mk (Kd.N_below H4'.out hb4)
   have GW := Aside0.mk (HW'.out.step hb4)
   have GF := Aside0.mk (Kd.F_below HF'.out hb4)
   have GB := Aside0.mk hb4
   have GL := Aside0.mk (show w3.heap.size ≤ gl by rw [hgl]; exact Nat.le_refl _)
   clear hl4 hb4 hgl
   refine hK.out _ _ ((blk_cell G1.out 1).trans rfl) (fun hHeld => ?_)
   clear hK K
   refine norm_ (a' := ?_) ?_ ?_
   rotate_left
   ·show Act.put _ (some 28) _ = _
    simp only [Act.put, sA, sZ, sS, i64_w, i32_w]
    rfl
   refine one_ (i := 8) (N := some 30) #[t_,t_,t_,t_,t_,t_,t_,t_,t_,f_,f_,f_,f_,f_,f_] rfl rfl (one_of HT_.out (by kernel_rfl)) (by decide) (fun K hK => ?_)
   refine bytes_copy_step (w0 := w3) (by rfl) (.tmp 28) (.tmp 29) rfl gl A c xs rfl rfl HL.out GL.out GB.out (Kd.F_now GF.out) (by have := hok.out.2.2.2; have := hok.out.2.1; have := hdev.out.small; omega) ?_
   intro v5 w5 hr5 hb5
   have HV := Aside0.mk hr5
   have K1 := Aside0.mk (blk_below H1'.out hb5)
   have K3 := Aside0.mk (blk_below H3'.out hb5)
   have K4 := Aside0.mk (Kd.N_below H4'.out hb5)
   have KW := Aside0.mk (HW'.out.step hb5)
   have KS := Aside0.mk hb5.size
   clear hr5 hb5 G1 G3 G4 GW GF GB GL HL
   obtain ⟨A5, c5, hv5, hc5, hC5⟩ := Kd.R_reads HV.out
   subst hv5
   refine hK.out _ _ ((blk_cell K1.out 1).trans rfl) (fun hHeld => ?_)
   clear hK K
   refine norm_ (a' := ?_) ?_ ?_
   rotate_left
   ·show Act.put _ (some 30) _ = _
    simp only [Act.put, sA, sZ, sS, i64_w, i32_w]
    rfl
   refine pure_ (i := 9) (N := some 31) (v := ?_) (a' := ?_) #[t_,t_,t_,t_,t_,t_,t_,t_,t_,t_,f_,f_,f_,f_,f_] rfl rfl (any_of HT_.out (by kernel_rfl)) (fun _ _ _ h => h) (Or.inl ⟨by rfl, ?_⟩) ?_ ?_
   rotate_left
   ·intro w'
    go_simp
    with_reducible rfl
   rotate_left
   ·simp only [Act.put, sA, sZ, sS, i64_w, i32_w]
    rfl
   refine one_ (i := 10) (N := some 32) #[t_,t_,t_,t_,t_,t_,t_,t_,t_,t_,t_,f_,f_,f_,f_] rfl rfl (one_of HT_.out (by kernel_rfl)) (by decide) (fun K hK => ?_)
   refine event_step (by rfl) (v := .slice (some ⟨w5.heap.size, 0, none⟩) 1 1) (w1 := w5.alloc (.cells [.int .i64 a, .slice A5 xs.length c5].toArray 161)) ?hr ?_; (case hr => first | (go_simp; done) | (go_simp; rfl))
   refine hK.out _ _ ((blk_cell (blk_alloc K1.out _) 1).trans rfl) (fun hHeld => ?_)
   clear hK K
   refine norm_ (a' := ?_) ?_ ?_
   rotate_left
   ·show Act.put _ (some 32) _ = _
    simp only [Act.put, sA, sZ, sS, i64_w, i32_w]
    rfl
   refine one_ (i := 11) (N := some 33) #[t_,t_,t_,t_,t_,t_,t_,t_,t_,t_,t_,t_,f_,f_,f_] rfl rfl (one_of HT_.out (by kernel_rfl)) (by decide) (fun K hK => ?_)
   have hne : ∀ k, w3.heap.size ≤ k → k ≠ g ∧ k ≠ gb := fun k hk => ⟨fun e => by have := blk_lt H1'.out; omega, fun e => by have := blk_lt H3'.out; omega⟩
   have hvw := Kd.N_lt H4'.out
   refine Kd.N_append_step k161 (w0 := w5) 0 (by rfl) (.tmp 26) (.tmp 32) 149 161 (.agg #[(.int .i64 0), (.slice none 0 0)]) 32 rfl Try.underlying149 info161 rfl (by decide) (by omega) (.slice Aw d.ws.length cw) d.ws (⟨a, xs⟩ : S161) [.int .i64 a, .slice A5 xs.length c5] (fun k => (S k ∨ w3.heap.size ≤ k) ∧ k ≠ g ∧ k ≠ gb) (fun k => w3.heap.size ≤ k) rfl rfl (k161_mkF w5 _ (⟨a, xs⟩ : S161) hc5 (Kd.R_F HV.out)) (fun k hk => ⟨⟨.inr hk, hne k hk⟩, fun e => by have := hvw k e.symm; omega⟩) (fun k hk => ⟨.inr (Nat.le_trans KS.out hk), hne k (Nat.le_trans KS.out hk)⟩) (Kd.N_mono K4.out (fun k hk => ⟨.inl hk.1, hk.2⟩)) (Below.refl _ _) (Nat.zero_le _) (by have := HWS.out; omega) ?_
   intro v6 w6 hn6 hb6 hg6 hat6
   obtain ⟨A6, c6, hv6⟩ := Kd.N_slice hn6
   subst hv6
   have hrow : ∀ k, (fun k => some k = (Value.slice Aw d.ws.length cw).ownBlock) k → S k ∨ w5.heap.size ≤ k := fun k hk => .inl ((Kd.N_bound H4'.out).1 k hk.symm).1.1
   have hk6 : Kept w5 w6 (fun k => some k = (Value.slice Aw d.ws.length cw).ownBlock) := ⟨hb6.size, fun k hk hn => hg6.block k hk hn⟩
   have hvg : some g ≠ (Value.slice Aw d.ws.length cw).ownBlock := fun e => ((Kd.N_bound H4'.out).1 g e.symm).1.2.1 rfl
   have hvb : some gb ≠ (Value.slice Aw d.ws.length cw).ownBlock := fun e => ((Kd.N_bound H4'.out).1 gb e.symm).1.2.2 rfl
   have L1 := Aside0.mk (blk_kept K1.out hk6 hvg)
   have L3 := Aside0.mk (blk_kept K3.out hk6 hvb)
   have L4 := Aside0.mk hn6
   have LW := Aside0.mk (KW.out.trans (⟨hk6, ⟨hb6.os, hb6.tape, hb6.output, hb6.size, fun j hj => absurd hj (Nat.not_lt_zero _)⟩⟩ : Went _ w5 w6) (fun k hk => .inl ((Kd.N_bound H4'.out).1 k hk.symm).1.1))
   clear hn6 hb6 hg6 hat6 hk6 hrow
   refine hK.out _ _ ((blk_cell L1.out 1).trans rfl) (fun hHeld => ?_)
   clear hK K
   refine norm_ (a' := ?_) ?_ ?_
   rotate_left
   ·show Act.put _ (some 33) _ = _
    simp only [Act.put, sA, sZ, sS, i64_w, i32_w]
    rfl
   refine pure_ (i := 12) (N := some 34) (v := ?_) (a' := ?_) #[t_,t_,t_,t_,t_,t_,t_,t_,t_,t_,t_,t_,t_,f_,f_] rfl rfl (any_of HT_.out (by kernel_rfl)) (fun _ _ _ h => h) (Or.inl ⟨by rfl, ?_⟩) ?_ ?_
   rotate_left
   ·intro w'
    go_simp
    with_reducible rfl
   rotate_left
   ·simp only [Act.put, sA, sZ, sS, i64_w, i32_w]
    rfl
   refine pure_ (i := 13) (N := some 35) (v := ?_) (a' := ?_) #[t_,t_,t_,t_,t_,t_,t_,t_,t_,t_,t_,t_,t_,t_,f_] rfl rfl (any_of HT_.out (by kernel_rfl)) (fun _ _ _ h => h) (Or.inl ⟨by rfl, ?_⟩) ?_ ?_
   rotate_left
   ·intro w'
    go_simp
    with_reducible rfl
   rotate_left
   ·simp only [Act.put, sA, sZ, sS, i64_w, i32_w]
    rfl
   refine last_ (i := 14) (N := none) #[t_,t_,t_,t_,t_,t_,t_,t_,t_,t_,t_,t_,t_,t_,t_] rfl rfl (one_of HT_.out (by kernel_rfl)) (by decide) (fun K hK => ?_)
   have hs1 := (blk_cell L1.out 1).trans rfl
   have hfs1 := blk_frozen L1.out 1
   refine skip_ (w1 := w6.setCell ⟨g, 1, none⟩ (.slice A6 (d.ws ++ [(⟨a, xs⟩ : S161)]).length c6)) (by rfl) rfl ?_ ?_
   ·go_simp
   refine hK.out _ _ ?_
   clear hK K
   refine done_ (done_of HT_.out (by kernel_rfl)) ?_
   go_wp2_with fail
   go_ret
   refine ⟨by rw [hE.out]; rfl, LW.out.set (.inl hdev.out.has) _, fun k => (S k ∨ w.heap.size ≤ k) ∧ k < (w6.setCell ⟨g, 1, none⟩ (.slice A6 (d.ws ++ [(⟨a, xs⟩ : S161)]).length c6)).heap.size, ?_, fun k hk => hk.1⟩
   rw [hE.out]
   have h03 : w.heap.size ≤ w3.heap.size := HW'.out.kept.1
   refine Dev.mkB (S := fun k => S k ∨ w.heap.size ≤ k) (.inl hdev.out.has) ⟨gb, _, blk_put L1.out 1 _ rfl, .inl H2.out, blk_far L3.out (blk_ne L3.out L1.out (by decide)) _, Kd.N_mono (Kd.N_far L4.out (fun k hk => hk.2.1) _) (fun k hk => ⟨hk.1.imp id (fun h => Nat.le_trans h03 h), hk.2⟩)⟩ hdev.out.small hdev.out.some_ ?_
   intro x hx
   rcases List.mem_append.1 hx with hx | hx
   ·exact hdev.out.fits x hx
   ·rw [List.mem_singleton.1 hx]
    have := hok.out
    exact ⟨this.2.1, by show a.toNat + xs.length ≤ d.b.length; omega⟩
  ·have cb2 : ((burnD d).2 != 0) = true := bne_iff_ne.mpr c2
   have hE : Aside0 (writeD d a xs = burnD d) := ⟨by unfold writeD; rw [if_pos c1, if_neg c2]⟩
   go_wp2_with fail
   go_ret
   exact ⟨by rw [hE.out]; rfl, HW2.out, S, by rw [hE.out]; exact HD2.out, fun k hk => .inl hk⟩
 ·have cb : (powerD d a xs.length != 0) = true := bne_iff_ne.mpr c1
  have hE : Aside0 (writeD d a xs = (d, powerD d a xs.length)) := ⟨by unfold writeD; rw [if_neg c1]⟩
  go_wp2_with fail
  go_ret
  exact ⟨by rw [hE.out]; rfl, Went.of_below HB.out, S, by rw [hE.out]; exact hd1.out, fun k hk => .inl hk⟩
end Go.Proofs.Ytccjdefhieilpaa.VT
namespace Go.Proofs.Ytccjdefhieilpaa.VT
open Go.RowKit Go.Proofs.YtccjdefhieilpaaW.PrintWords Go.Proofs.YtccjdefhieilpaaW.PrintLast Go.Proofs.YtccjdefhieilpaaW.PrintMore Go.Proofs.Ytccjdefhieilpaa.PB Go.Proofs.Ytccjdefhieilpaa.PL Go.Proofs.Ytccjdefhieilpaa.PG
attribute [local go_sem] max2_int min2_int max_two min_two max_three min_three max_four min_four   -- for this text's walks alone
set_option linter.unusedVariables false
set_option linter.unusedSimpArgs false
def read8.T : Bool × List (List Nat × List Nat) := (true, [([], []), ([], []), ([1], [1]), ([0, 2], [0, 2]), ([], []), ([4], [4]), ([3, 5], [3, 5])])
def read8.B : List Nat := [0, 0, 2, 7, 0, 16, 63]
theorem read8.tab : rtab .any (opsOf Try.f79 8) = read8.T := by kernel_rfl
theorem read8.bits : waitsOk read8.T.2 read8.B = true := by kernel_rfl
theorem R_raw {w : World} {base : Nat} {ok : Nat → Prop} {v : Value} {xs : List Int} (h : (Kd.int .u8).R 5 w base ok v xs) (hne : xs ≠ []) :
  ∃ g c sp, v = .slice (some ⟨g, 0, none⟩) xs.length c ∧ base ≤ g ∧ w.heap[g]? = some (.cells (xs.map (Value.int .u8) ++ sp).toArray 5 (0, 0)) ∧ xs.length + sp.length = c ∧ c ≤ 9223372036854775807 := by
 rcases (Kd.own_of_R h).2 with ⟨_, he⟩ | ⟨g, cap, cur, rfl, hb, hh, hn, hm, hs, ht⟩
 ·exact absurd (List.eq_nil_of_length_eq_zero (by simpa using he)) hne
 ·rw [Nat.mul_one] at ht hs
  have e : xs.map (Value.int .u8) ++ cur.toList.drop xs.length = cur.toList := by
   have h1 : cur.toList.take xs.length = xs.map (Value.int .u8) := ht
   rw [← h1, List.take_append_drop]
  refine ⟨g, cap, cur.toList.drop xs.length, rfl, hb, ?_, ?_, hm⟩
  ·rw [e]
   exact hh
  ·rw [List.length_drop]
   show xs.length + (cur.size - xs.length) = cap
   omega
def readD (d : D) (a n : Int) : List Int × Int :=
 if powerD d a n = 0 then (((layAll d.b d.ws).take (a + n).toNat).drop a.toNat, 0) else ([], powerD d a n)
set_option maxHeartbeats 8000000 in
set_option maxRecDepth 100000 in
theorem read_calls {S : Nat → Prop} {w : World} {g : Nat} {d : D} (h : Dev S w g d) (a n : Int) :
  Calls Try.prog 79 #[.pointer (some ⟨g, 0, none⟩), .int .i64 a, .int .i64 n] w fun e w' => ∃ v, e = .returned (.tuple #[v, .int .i64 (readD d a n).2]) ∧ (Kd.int .u8).R 5 w' w.heap.size (fun k => w.heap.size ≤ k) v (readD d a n).1 ∧ Below w.heap.size w w' := by
 have hdev := Aside0.mk h
 clear h
 go_enter Try.func79, Try.ntmps79
 go_wp2_with fail
 refine (power_calls hdev.out a n).mono ?_
 rintro e w1 ⟨rfl, hb⟩
 have hd1 := Aside0.mk (hdev.out.below hb)
 have HB := Aside0.mk hb
 clear hb
 by_cases c1 : powerD d a n = 0
 ·have cb : (powerD d a n != 0) = false := bne_eq_false_iff_eq.mpr c1
  have hok := Aside0.mk (powerD_ok c1 hdev.out.small)
  have hE : Aside0 (readD d a n = (((layAll d.b d.ws).take (a + n).toNat).drop a.toNat, 0)) := ⟨by unfold readD; rw [if_pos c1]⟩
  obtain ⟨gb, vw, h1, h2, h3, h4⟩ := hd1.out.parts
  obtain ⟨Aw, cw, rfl⟩ := Kd.N_slice h4
  have hc0 : w1.cell? ⟨g, 0, none⟩ = some (.slice (some ⟨gb, 0, none⟩) d.b.length d.b.length) := (blk_cell h1 0).trans rfl
  have H3 := Aside0.mk h3
  clear h1 h2 h3 h4
  go_upto_region 5 with (first | ((with_reducible refine gate_dst (N := 19) rfl ?_); refine lit_event ?hg (N := 19) ?hd (cs := #[]) (t := 5) (m := 0) ?hr ?_; (case hd => rfl); (case hg => rfl); (case hr => first | (go_simp; done) | (go_simp; rfl)); intro gl hgl w2 hl2 hb2; have HL := Aside0.mk hl2; have H32 := Aside0.mk (blk_below H3.out hb2); have HB2 := Aside0.mk (below_step HB.out hb2); have GL := Aside0.mk (show w.heap.size ≤ gl by rw [hgl]; exact HB.out.size); have hc2 : w2.cell? ⟨g, 0, none⟩ = some (.slice (some ⟨gb, 0, none⟩) d.b.length d.b.length) := ((hb2.cell (World.block_lt_of_cell? w1 _ hc0)).trans hc0); clear hgl hl2 hb2 hc0) | ((with_reducible refine gate_builtin (b := .append) (xs := #[.tmp 19, .tmp 23]) rfl ?_); at_builtin; refine bytes_copy (w0 := w) rfl (.tmp 19) (.tmp 23) rfl gl (some ⟨gb, 0, none⟩) d.b.length d.b rfl rfl HL.out GL.out HB2.out (rawC (sp := []) (by rw [List.append_nil]; exact H32.out) (by have := hdev.out.small; simp only [List.length_nil]; omega)) (by have := hdev.out.small; omega) ?_; intro v1 w3 hr3 hb3; have HR3 := Aside0.mk hr3; have HB3 := Aside0.mk hb3; clear hr3 hb3))
  obtain ⟨ga, ca, sp, hv1, hga, hra, hca, hcm⟩ := R_raw HR3.out hdev.out.some_
  subst hv1
  obtain ⟨gb3, vw3, h1, h2, h3, h4⟩ := hdev.out.parts
  have h1 := blk_below h1 HB3.out
  have h4 := Kd.N_below (Kd.N_mono h4 (ok' := fun k => k < w.heap.size) (fun k hk => hdev.out.lt k hk.1)) HB3.out
  obtain ⟨Aw3, cw3, rfl⟩ := Kd.N_slice h4
  have hmx : d.ws.length ≤ 9223372036854775807 := (Kd.N_reads' h4).2.2.2.1
  have hc1 : w3.cell? ⟨g, 1, none⟩ = some (.slice Aw3 d.ws.length cw3) := (blk_cell h1 1).trans rfl
  have HMX := Aside0.mk hmx
  have HGA := Aside0.mk hga
  have HCA := Aside0.mk (And.intro hca hcm)
  have HRA := Aside0.mk (show w3.heap[ga]? = some (.cells ((layAll d.b (d.ws.take 0)).map (Value.int .u8) ++ sp).toArray 5 (0, 0)) from hra)
  have HN := Aside0.mk h4
  clear h1 h2 h3 h4 hmx hga hra hca hcm H32 HB2 HL GL hc2
  have hu161 := Try.underlying161
  go_wp2_with fail
  go_loopg [30] d.ws.length (fun kq v30 w' => ∃ i : Nat, v30 = .int .i64 (i : Int) ∧ Aside0 (i + kq = d.ws.length) ∧ Aside0 (w'.heap[ga]? = some (.cells ((layAll d.b (d.ws.take i)).map (Value.int .u8) ++ sp).toArray 5 (0, 0))) ∧ Aside0 (Kd.N k161 161 w' 0 (fun k => k < w.heap.size) (.slice Aw3 d.ws.length cw3) d.ws) ∧ Aside0 (Below w.heap.size w w'))
  case atStart => exact ⟨0, rfl, ⟨Nat.zero_add _⟩, HRA, HN, HB3⟩
  case round =>
   clear HRA HN hc1 HB3 HR3
   obtain ⟨i, rfl, HK, HRA, HN, HB3⟩ := hrel
   cases gk with
   | zero =>
    have hin : i = d.ws.length := by have := HK.out; omega
    have cb : decide ((i : Int) < (d.ws.length : Int)) = false := decide_eq_false (by omega)
    have q1 : (i < d.ws.length) = False := eq_false (by omega)
    have hll := layAll_length d.ws d.b hdev.out.fits
    have hra := HRA.out
    rw [hin, List.take_length] at hra
    have hk2 := hok.out
    have hsm := hdev.out.small
    have hw : wrap64 (a + n) = a + n := by unfold wrap64; omega
    obtain ⟨i2, hi2, _, hsz2, _⟩ := info_parts info5
    have hlen : (((layAll d.b d.ws).take (a + n).toNat).drop a.toNat).length = (a + n).toNat - a.toNat := by rw [List.length_drop, List.length_take]; omega
    obtain ⟨dp, hdp, hcut⟩ : ∃ dp, dp = (if ca = a.toNat then some (⟨ga, 0, none⟩ : Addr) else (some (⟨ga, 0, none⟩ : Addr)).map (·.add (a.toNat * 1))) ∧ ∀ W : World, (Instr.slice 44 (.slice (some ⟨ga, 0, none⟩) d.b.length ca) (some (.int .i64 a)) (some (.int .i64 (a + n))) none).run Try.prog W = .ok (.slice dp (((layAll d.b d.ws).take (a + n).toNat).drop a.toNat).length (ca - a.toNat)) W :=
     ⟨_, rfl, fun W => by rw [hlen]; exact cut_mid (P := Try.prog) 44 5 .i64 .i64 Try.underlying44 hi2 1 hsz2 (some ⟨ga, 0, none⟩) d.b.length ca a (a + n) hk2.2.1 (by omega) (by omega) (by have := HCA.out; omega) W⟩
    have hC : (Kd.int .u8).C wr dp (((layAll d.b d.ws).take (a + n).toNat).drop a.toNat).length (((layAll d.b d.ws).take (a + n).toNat).drop a.toNat) := by
     rw [hdp]
     exact Kd.C_mid (rawC hra (by have := HCA.out; omega)) (by omega) (by omega) (by have := HCA.out; omega)
    generalize ((layAll d.b d.ws).take (a + n).toNat).drop a.toNat = out at hE hcut hC hlen
    have HC := Aside0.mk hC
    have HO := Aside0.mk (show out.length ≤ 140737488355328 by omega)
    clear hdp hC hlen hll hra hk2 hsm hin
    go_wp2_with (first | ((with_reducible refine gate_dst (N := 42) rfl ?_); refine lit_event ?hg (N := 42) ?hd (cs := #[]) (t := 5) (m := 0) ?hr ?_; (case hd => rfl); (case hg => rfl); (case hr => first | (go_simp; done) | (go_simp; rfl)); intro gl2 hgl w4 hl4 hb4; have HL := Aside0.mk hl4; have HB4 := Aside0.mk (below_step HB3.out hb4); have GL := Aside0.mk (show w.heap.size ≤ gl2 by rw [hgl]; exact HB3.out.size); have HC4 := Aside0.mk (Kd.C_below HC.out hb4); clear hgl hl4 hb4) | ((with_reducible refine gate_builtin (b := .append) (xs := #[.tmp 42, .tmp 48]) rfl ?_); at_builtin; refine bytes_copy (w0 := w) rfl (.tmp 42) (.tmp 48) rfl gl2 dp (ca - a.toNat) out rfl rfl HL.out GL.out HB4.out HC4.out HO.out ?_; intro v6 w6 hr6 hb6; have HR6 := Aside0.mk hr6; have HB6 := Aside0.mk hb6; clear hr6 hb6))
    go_ret2
    exact ⟨v6, by rw [hE.out]; rfl, by rw [hE.out]; exact HR6.out, HB6.out⟩
   | succ k1 =>
    have hin : i < d.ws.length := by have := HK.out; omega
    have cb : decide ((i : Int) < (d.ws.length : Int)) = true := decide_eq_true (by omega)
    obtain ⟨ad, A1, c1, hA, hx0, hx1, hl1, hC1⟩ := at_T161 (Kd.N_reads' HN.out).2.2 (i : Int) (by omega) (by omega)
    subst hA
    have hfx := hdev.out.fits _ (T161_mem d.ws i hin)
    have hsnoc := T161_take d.ws i hin
    have hll := layAll_length (d.ws.take i) d.b (fun x hx => hdev.out.fits x (List.mem_of_mem_take hx))
    have p0 : (0 : Int) ≤ (i : Int) := by omega
    replace p0 := eq_true p0
    have q1 : (i < d.ws.length) = True := eq_true hin
    rw [Int.toNat_natCast] at hx0 hx1
    generalize rd_T161 d.ws (i : Int) = x at *
    have HX := Aside0.mk hC1
    have HFX := Aside0.mk hfx
    have HSN := Aside0.mk hsnoc
    have HLL := Aside0.mk hll
    have hin2 := Aside0.mk hin
    clear hC1 hfx hsnoc hll hin hl1
    go_wp2_with (first | ((with_reducible refine gate_dst (N := 11) rfl ?_); refine box_event ?hg (N := 11) ?hd (cs := #[.int .i64 0, .slice none 0 0]) (t := 161) ?hr ?_; (case hd => rfl); (case hg => rfl); (case hr => first | (go_simp; done) | (go_simp; rfl)); intro gx hgx w2 hbox hb; have BX := Aside0.mk hbox; have HB2 := Aside0.mk hb; have GX := Aside0.mk hgx; clear hbox hb hgx; have hy0 : w2.cell? ⟨gx, 0, none⟩ = some (.int .i64 0) := (blk_cell BX.out 0).trans rfl; have hy1 : w2.cell? ⟨gx, 1, none⟩ = some (.slice none 0 0) := (blk_cell BX.out 1).trans rfl; have hz0 := blk_frozen BX.out 0; have hz1 := blk_frozen BX.out 1) | ((with_reducible refine gate_store (t := 161) (p := 11) rfl ?_); refine store_event (t := 161) (p := 11) (v := ?vo) (w1 := ((w2.setCell ⟨gx, 0, none⟩ (.int .i64 x.f0)).setCell ⟨gx, 1, none⟩ (.slice A1 x.f1.length c1))) ?hg ?ho ?hn ?hr ?_; (case ho => rfl); (case hg => rfl); (case hn => rfl); (case hr => first | (go_simp; done) | (go_simp; rfl)); intro w3 hw3; have hb3 : Below wr.heap.size wr w3 := (by rw [hw3]; exact (HB2.out.setCell (by rw [GX.out]; exact Nat.le_refl _) _).setCell (by rw [GX.out]; exact Nat.le_refl _) _); have BX3 : w3.heap[gx]? = some (.cells #[.int .i64 x.f0, .slice A1 x.f1.length c1] 161 (0, 0)) := (by rw [hw3]; exact blk_put (blk_put BX.out 0 _ rfl) 1 _ rfl); have HB33 := Aside0.mk (below_step HB3.out hb3); have HRA3 := Aside0.mk (blk_below HRA.out hb3); have HN3 := Aside0.mk (Kd.N_below HN.out hb3); have HX3 := Aside0.mk (Kd.C_below HX.out hb3); clear hw3 hb3 hy0 hy1 hz0 hz1 BX HB2; have hy0 : w3.cell? ⟨gx, 0, none⟩ = some (.int .i64 x.f0) := (blk_cell BX3 0).trans rfl; have hy1 : w3.cell? ⟨gx, 1, none⟩ = some (.slice A1 x.f1.length c1) := (blk_cell BX3 1).trans rfl; have BX3 := Aside0.mk BX3; obtain ⟨dp, hdp, hcut2⟩ := cut_bytes ga d.b.length ca x.f0 HFX.out.1 (by have := HFX.out.2; have := HFX.out.1; omega); have HDP := Aside0.mk hdp; clear hdp))
    refine start_ (n := 7) (S := fun w' => w'.cell? ⟨gx, 0, none⟩ = some (.int .i64 x.f0) ∧ w'.cell? ⟨gx, 1, none⟩ = some (.slice A1 x.f1.length c1)) (ds := []) #[f_,f_,f_,f_,f_,f_,f_] (by kernel_rfl) rfl rfl ⟨hy0, hy1⟩ (fun hHeld => ?_); refine with_tabW read8.tab read8.bits (fun HT_ HW_ => ?_)
    have HB4 := Aside0.mk (below_drew1 HB33.out); have HRA4 := Aside0.mk (blk_drew HRA3.out); have HN4 := Aside0.mk (Kd.N_drew HN3.out); have HX4 := Aside0.mk (Kd.C_drew HX3.out); have BX4 := Aside0.mk (blk_drew BX3.out); clear HB33 HRA3 HN3 HX3 BX3; generalize w3.drew = w4 at HB4 HRA4 HN4 HX4 BX4 hHeld ⊢
    refine pure_ (i := 0) (N := some 34) (v := ?_) (a' := ?_) #[t_,f_,f_,f_,f_,f_,f_] rfl rfl (any_of HT_.out (by kernel_rfl)) (fun _ _ _ h => h) (Or.inl ⟨by rfl, ?_⟩) ?_ ?_
    rotate_left
    ·intro w'
     go_simp
     with_reducible rfl
    rotate_left
    ·simp only [Act.put, sA, sZ, sS, i64_w, i32_w]
     rfl
    refine pure_ (i := 1) (N := some 35) (v := ?_) (a' := ?_) #[t_,t_,f_,f_,f_,f_,f_] rfl rfl (any_of HT_.out (by kernel_rfl)) (fun _ _ _ h => h) (Or.inl ⟨by rfl, ?_⟩) ?_ ?_
    rotate_left
    ·intro w'
     go_simp
     with_reducible rfl
    rotate_left
    ·simp only [Act.put, sA, sZ, sS, i64_w, i32_w]
     rfl
    refine take_ (i := 2) (N := some 36) (v := ?_) (a' := ?_) #[t_,t_,t_,f_,f_,f_,f_] rfl rfl (take_ofW HT_.out HW_.out (by kernel_rfl)) (fun _ _ _ h => h) (Or.inl ⟨by rfl, ?_⟩) hHeld ?_ ?_
    rotate_left
    ·rintro w' ⟨s0, s1⟩
     go_simp
     with_reducible rfl
    rotate_left
    ·simp only [Act.put, sA, sZ, sS, i64_w, i32_w]
     rfl
    refine pure_ (i := 3) (N := some 37) (v := ?_) (a' := ?_) #[t_,t_,t_,t_,f_,f_,f_] rfl rfl (any_of HT_.out (by kernel_rfl)) (fun _ _ _ h => h) (Or.inl ⟨by rfl, ?_⟩) ?_ ?_
    rotate_left
    ·intro w'
     go_simp
     with_reducible rfl
    rotate_left
    ·simp only [Act.put, sA, sZ, sS, i64_w, i32_w]
     rfl
    refine pure_ (i := 4) (N := some 38) (v := ?_) (a' := ?_) #[t_,t_,t_,t_,t_,f_,f_] rfl rfl (any_of HT_.out (by kernel_rfl)) (fun _ _ _ h => h) (Or.inl ⟨by rfl, ?_⟩) ?_ ?_
    rotate_left
    ·intro w'
     go_simp
     with_reducible rfl
    rotate_left
    ·simp only [Act.put, sA, sZ, sS, i64_w, i32_w]
     rfl
    refine take_ (i := 5) (N := some 39) (v := ?_) (a' := ?_) #[t_,t_,t_,t_,t_,t_,f_] rfl rfl (take_ofW HT_.out HW_.out (by kernel_rfl)) (fun _ _ _ h => h) (Or.inl ⟨by rfl, ?_⟩) hHeld ?_ ?_
    rotate_left
    ·rintro w' ⟨s0, s1⟩
     go_simp
     with_reducible rfl
    rotate_left
    ·simp only [Act.put, sA, sZ, sS, i64_w, i32_w]
     rfl
    refine one_ (i := 6) (N := some 40) #[t_,t_,t_,t_,t_,t_,t_] rfl rfl (one_of HT_.out (by kernel_rfl)) (by decide) (fun K hK => ?_)
    refine copy_step (by rfl) (.tmp 37) (.tmp 39) rfl ga d.b.length ca x.f0.toNat A1 c1 (layAll d.b (d.ws.take i)) x.f1 sp dp HDP.out rfl rfl HRA4.out HLL.out (by have := HCA.out; omega) HFX.out.2 HX4.out ?_
    intro w5 hb5 hk5 hz5
    have HRA5 := Aside0.mk (show w5.heap[ga]? = some (.cells ((layAll d.b (d.ws.take (i + 1))).map (Value.int .u8) ++ sp).toArray 5 (0, 0)) by rw [HSN.out, layAll_snoc]; exact hb5)
    have HN5 := Aside0.mk (Kd.N_kept HN4.out hk5 (fun k hk e => by have := HGA.out; have e' : k = ga := e; omega))
    have BX5 := blk_kept BX4.out hk5 (fun e => blk_ne HRA4.out BX4.out (by decide) e.symm)
    have HB5 := Aside0.mk (show Below w.heap.size w w5 from ⟨hz5.os.trans HB4.out.os, hz5.tape.trans HB4.out.tape, hz5.output.trans HB4.out.output, Nat.le_trans HB4.out.size hz5.size, fun j hj => (hk5.2 j (Nat.lt_of_lt_of_le hj HB4.out.size) (fun e => by have := HGA.out; have e' : j = ga := e; omega)).trans (HB4.out.block j hj)⟩)
    refine hK.out _ _ ⟨(blk_cell BX5 0).trans rfl, (blk_cell BX5 1).trans rfl⟩ (fun hHeld => ?_)
    clear hK K
    refine norm_ (a' := ?_) ?_ ?_
    rotate_left
    ·show Act.put _ (some 40) _ = _
     simp only [Act.put, sA, sZ, sS, i64_w, i32_w]
     rfl
    refine done_ (done_of HT_.out (by kernel_rfl)) ?_
    go_wp2_with fail
    go_roundg k1
    case measure => omega
    case rel => exact ⟨i + 1, (by have h_ : wrap64 ((i : Int) + 1) = ((i + 1 : Nat) : Int) := (by have := HMX.out; have := hin2.out; unfold wrap64; omega); rw [h_]), ⟨by have := HK.out; omega⟩, HRA5, HN5, HB5⟩
 ·have cb : (powerD d a n != 0) = true := bne_iff_ne.mpr c1
  have hE : Aside0 (readD d a n = ([], powerD d a n)) := ⟨by unfold readD; rw [if_neg c1]⟩
  go_wp2_with fail
  go_ret2
  refine ⟨.slice none 0 0, by rw [hE.out]; rfl, by rw [hE.out]; exact Kd.R_nil _ _ _ _ _, HB.out⟩
end Go.Proofs.Ytccjdefhieilpaa.VT
