/-
 What the law VaultPlays needs of VInv (what it does not use is left out by a program of this session, wip/tools/dce.py).
-/
import Derived.Test.YtccjdefhieilpaaRVB
namespace Go.Proofs.Ytccjdefhieilpaa.VT
open Go.RowKit Go.Proofs.YtccjdefhieilpaaW.PrintWords Go.Proofs.Ytccjdefhieilpaa.PB Go.Proofs.Ytccjdefhieilpaa.PL Go.Proofs.Ytccjdefhieilpaa.PG Go.Proofs.Ytccjdefhieilpaa.Pure
set_option linter.unusedVariables false
def writes : Nat → List S68 → List S161
 | _, [] => []
 | p, e :: l => ⟨(p : Int), Spec.frameL (p68 e) ++ [0]⟩ :: writes (p + (Spec.frameL (p68 e)).length) l
theorem writes_snoc : ∀ (l : List S68) (p : Nat) (e : S68), writes p (l ++ [e]) = writes p l ++ [⟨((p + (framesS l).length : Nat) : Int), Spec.frameL (p68 e) ++ [0]⟩]
 | [], p, e => rfl
 | x :: l, p, e => by
  have h := writes_snoc l (p + (Spec.frameL (p68 x)).length) e
  show _ :: writes _ (l ++ [e]) = _
  rw [h, framesS_cons, List.length_append, Nat.add_assoc]
  rfl
theorem writes_take : ∀ (l : List S68) (p n : Nat), (writes p l).take n = writes p (l.take n)
 | [], p, n => by simp [writes]
 | x :: l, p, 0 => rfl
 | x :: l, p, n + 1 => by
  show _ :: (writes _ l).take n = _
  rw [writes_take l]
  rfl
theorem writes_length : ∀ (l : List S68) (p : Nat), (writes p l).length = l.length
 | [], _ => rfl
 | _ :: l, _ => congrArg (· + 1) (writes_length l _)
theorem rights_append {l m : List S68} (h : Rights l) (h' : Rights m) : Rights (l ++ m) := fun x hx => (List.mem_append.1 hx).elim (h x) (h' x)
theorem datas_append {l m : List S68} (h : Datas l) (h' : Datas m) : Datas (l ++ m) := fun x hx => (List.mem_append.1 hx).elim (h x) (h' x)
theorem rights_take {l : List S68} (h : Rights l) (n : Nat) : Rights (l.take n) := fun x hx => h x (List.mem_of_mem_take hx)
theorem datas_take {l : List S68} (h : Datas l) (n : Nat) : Datas (l.take n) := fun x hx => h x (List.mem_of_mem_take hx)
def Begins (b : List Int) (l : List S68) : Prop := ∃ z, b = framesS l ++ 0 :: z ∧ Bytes z
theorem lay_one {b : List Int} {s : List S68} {e : S68} (h : Begins b s) (hr : (framesS s).length + (Spec.frameL (p68 e)).length + 1 ≤ b.length) : Begins (layL b (framesS s).length (Spec.frameL (p68 e) ++ [0])) (s ++ [e]) := by
 obtain ⟨z, rfl, hz⟩ := h
 refine ⟨(framesS s ++ 0 :: z).drop ((framesS s).length + ((Spec.frameL (p68 e)).length + 1)), ?_, ?_⟩
 ·unfold layL
  rw [List.take_left' rfl, framesS_append, framesS_cons, List.append_assoc, List.append_assoc, List.append_assoc, List.length_append]
  rfl
 ·rw [List.drop_append, List.drop_eq_nil_of_le (Nat.le_add_right _ _), List.nil_append, Nat.add_sub_cancel_left]
  show Bytes (z.drop (Spec.frameL (p68 e)).length)
  exact hz.drop _
theorem lay_writes : ∀ (l : List S68) (s : List S68) (b : List Int), Begins b s → (framesS (s ++ l)).length + 1 ≤ b.length → Begins (layAll b (writes (framesS s).length l)) (s ++ l) ∧ (layAll b (writes (framesS s).length l)).length = b.length
 | [], s, b, h, _ => by
  rw [List.append_nil]
  exact ⟨h, rfl⟩
 | e :: l, s, b, h, hr => by
  have hl : (framesS (s ++ e :: l)).length = (framesS s).length + ((Spec.frameL (p68 e)).length + (framesS l).length) := by rw [framesS_append, framesS_cons, List.length_append, List.length_append]
  rw [hl] at hr
  have h1 := lay_one (e := e) h (by omega)
  have h2 : (layL b (framesS s).length (Spec.frameL (p68 e) ++ [0])).length = b.length := layL_length _ _ _ (by rw [List.length_append, List.length_singleton]; omega)
  have hs : (framesS (s ++ [e])).length = (framesS s).length + (Spec.frameL (p68 e)).length := by rw [framesS_append, List.length_append, framesS_cons, List.length_append]; rfl
  have h3 := lay_writes l (s ++ [e]) _ h1 (by rw [h2, List.append_assoc]; show (framesS (s ++ e :: l)).length + 1 ≤ b.length; rw [hl]; omega)
  rw [hs, h2, List.append_assoc] at h3
  exact h3
theorem begins_bytes {b : List Int} {l : List S68} (h : Begins b l) (hr : Rights l) (hd : Datas l) : Bytes b := by
 obtain ⟨z, rfl, hz⟩ := h
 refine Bytes.append ?_ (fun x hx => ?_)
 ·unfold framesS
  exact Spec.framesL_bytes fun e he => by
   obtain ⟨x, hx, rfl⟩ := List.mem_map.1 he
   exact ⟨hr x hx, hd x hx⟩
 ·rcases List.mem_cons.1 hx with rfl | hx
  ·omega
  ·exact hz x hx
theorem begins_read {b : List Int} {l : List S68} (h : Begins b l) (hr : Rights l) (hd : Datas l) : readS b = l ∧ readN b = (framesS l).length := by
 obtain ⟨z, rfl, hz⟩ := h
 exact readS_zero l z hr hd hz
structure Inv (d : D) (v : V) (s t : List S68) : Prop where
 base : Begins d.b s
 waits : d.ws = writes (framesS s).length t
 rs : Rights s
 ds : Datas s
 rt : Rights t
 dt : Datas t
 room : (framesS (s ++ t)).length + 1 ≤ d.b.length
 vl : v.l = s ++ t
 ve : v.en = ((framesS (s ++ t)).length : Int)
 small : d.b.length ≤ 100000
theorem Inv.new (n : Nat) (h : 1 ≤ n) (hn : n ≤ 100000) : Inv (newD n) ⟨[], 0, false⟩ [] [] :=
 ⟨⟨List.replicate (n - 1) 0, by
   show List.replicate n 0 = [] ++ 0 :: List.replicate (n - 1) 0
   rw [List.nil_append, ← List.replicate_succ]
   congr 1
   omega, zeros_bytes _⟩, rfl, fun x hx => (by cases hx), fun x hx => (by cases hx), fun x hx => (by cases hx), fun x hx => (by cases hx), by show 0 + 1 ≤ (List.replicate n (0 : Int)).length; rw [List.length_replicate]; omega, rfl, rfl, by show (List.replicate n (0 : Int)).length ≤ _; rw [List.length_replicate]; omega⟩
theorem Inv.count {d : D} {v : V} {s t : List S68} (h : Inv d v s t) : s.length + t.length ≤ 20000 := by
 have h1 := framesS_seven (s ++ t)
 have h2 := h.room
 have h3 := h.small
 rw [List.length_append] at h1
 omega
theorem Inv.append {d : D} {v : V} {s t : List S68} (h : Inv d v s t) (e : S68) (he : Bytes e.f1) :
  Inv (appendV d v e).1 (appendV d v e).2.1 s (if (appendV d v e).2.2 = 0 then t ++ [e] else t) := by
 have hroom := h.room
 have hsm := h.small
 unfold appendV
 by_cases c1 : v.dead = true
 ·rw [if_pos c1]
  exact h
 ·rw [if_neg c1]
  by_cases c2 : Spec.rightE (p68 e)
  ·rw [if_pos c2]
   by_cases c3 : wrap64 ((d.b.length : Int) - v.en) < ((Spec.frameL (p68 e)).length : Int) + 1
   ·rw [if_pos c3]
    exact h
   ·rw [if_neg c3]
    have hfr := frame_small e.f0 e.f1 c2
    have hfr' : (Spec.frameL (p68 e)).length ≤ 1048600 := hfr
    have hw : wrap64 ((d.b.length : Int) - v.en) = (d.b.length : Int) - v.en := by rw [h.ve]; unfold wrap64; omega
    have hw2 : wrap64 (v.en + ((Spec.frameL (p68 e)).length : Int)) = ((framesS (s ++ (t ++ [e]))).length : Int) := by
     rw [h.ve, ← List.append_assoc, framesS_append (s ++ t), List.length_append, framesS_cons, List.length_append]
     show wrap64 _ = (((framesS (s ++ t)).length + ((Spec.frameL (p68 e)).length + 0) : Nat) : Int)
     unfold wrap64
     omega
    have hl2 : (framesS (s ++ (t ++ [e]))).length = (framesS (s ++ t)).length + (Spec.frameL (p68 e)).length := by
     rw [← List.append_assoc, framesS_append (s ++ t), List.length_append, framesS_cons, List.length_append]
     rfl
    rw [hw, h.ve] at c3
    unfold writeD
    by_cases c4 : powerD d v.en ((Spec.frameL (p68 e) ++ [0]).length : Nat) = 0
    ·rw [if_pos c4]
     by_cases c5 : (burnD d).2 = 0
     ·rw [if_pos c5]
      simp only [if_true]
      refine ⟨h.base, ?_, h.rs, h.ds, rights_append h.rt (fun x hx => by rw [List.mem_singleton.1 hx]; exact c2), datas_append h.dt (fun x hx => by rw [List.mem_singleton.1 hx]; exact he), ?_, ?_, ?_, h.small⟩
      ·show d.ws ++ [⟨v.en, Spec.frameL (p68 e) ++ [0]⟩] = _
       rw [writes_snoc, ← h.waits, h.ve, framesS_append, List.length_append]
      ·show (framesS (s ++ (t ++ [e]))).length + 1 ≤ d.b.length
       rw [hl2]
       omega
      ·show v.l ++ [e] = s ++ (t ++ [e])
       rw [h.vl, List.append_assoc]
      ·exact hw2
     ·rw [if_neg c5]
      have hb := burnD_bw d
      rw [if_neg c5]
      simp only [if_neg c5]
      exact ⟨by rw [hb.1]; exact h.base, by rw [hb.2]; exact h.waits, h.rs, h.ds, h.rt, h.dt, by rw [hb.1]; exact h.room, h.vl, h.ve, by rw [hb.1]; exact h.small⟩
    ·rw [if_neg c4, if_neg c4]
     simp only [if_neg c4]
     exact ⟨h.base, h.waits, h.rs, h.ds, h.rt, h.dt, h.room, h.vl, h.ve, h.small⟩
  ·rw [if_neg c2]
   exact h
theorem Inv.sync {d : D} {v : V} {s t : List S68} (h : Inv d v s t) :
  Inv (if v.dead = true then d else (flushD d).1) (if v.dead = true then v else doneV v (flushD d).2) (if (if v.dead = true then 28 else (flushD d).2) = 0 then s ++ t else s) (if (if v.dead = true then 28 else (flushD d).2) = 0 then [] else t) := by
 by_cases c1 : v.dead = true
 ·simp only [if_pos c1]
  exact h
 ·simp only [if_neg c1]
  unfold flushD
  by_cases c2 : powerD d 0 0 = 0
  ·rw [if_pos c2]
   by_cases c3 : (burnD d).2 = 0
   ·rw [if_pos c3]
    simp only [if_true]
    have hl := lay_writes t s d.b h.base h.room
    rw [← h.waits] at hl
    exact ⟨hl.1, rfl, rights_append h.rs h.rt, datas_append h.ds h.dt, fun x hx => (by cases hx), fun x hx => (by cases hx), by rw [List.append_nil]; show _ ≤ (layAll d.b d.ws).length; rw [hl.2]; exact h.room, by rw [List.append_nil]; exact h.vl, by rw [List.append_nil]; exact h.ve, by show (layAll d.b d.ws).length ≤ _; rw [hl.2]; exact h.small⟩
   ·rw [if_neg c3]
    have hb := burnD_bw d
    simp only [if_neg c3]
    exact ⟨by rw [hb.1]; exact h.base, by rw [hb.2]; exact h.waits, h.rs, h.ds, h.rt, h.dt, by rw [hb.1]; exact h.room, h.vl, h.ve, by rw [hb.1]; exact h.small⟩
  ·rw [if_neg c2]
   simp only [if_neg c2]
   exact ⟨h.base, h.waits, h.rs, h.ds, h.rt, h.dt, h.room, h.vl, h.ve, h.small⟩
theorem Inv.arm {d : D} {v : V} {s t : List S68} (h : Inv d v s t) (n : Int) : Inv (armD d n) v s t := ⟨h.base, h.waits, h.rs, h.ds, h.rt, h.dt, h.room, h.vl, h.ve, h.small⟩
theorem Inv.crash {d : D} {v : V} {s t : List S68} (h : Inv d v s t) (n : Int) :
  Begins (crashD d n).b (s ++ t.take n.toNat) ∧ (crashD d n).b.length = d.b.length ∧ readS (layAll (crashD d n).b (crashD d n).ws) = s ++ t.take n.toNat ∧ readN (layAll (crashD d n).b (crashD d n).ws) = (framesS (s ++ t.take n.toNat)).length ∧ Bytes (layAll (crashD d n).b (crashD d n).ws) ∧
   Inv (crashD d n) ⟨s ++ t.take n.toNat, ((framesS (s ++ t.take n.toNat)).length : Int), false⟩ (s ++ t.take n.toNat) [] := by
 have hr := rights_append h.rs (rights_take h.rt n.toNat)
 have hd := datas_append h.ds (datas_take h.dt n.toNat)
 have hfit : (framesS (s ++ t.take n.toNat)).length + 1 ≤ d.b.length := by
  have h1 := h.room
  have h2 := framesS_upto t n.toNat
  rw [framesS_append, List.length_append] at h1 ⊢
  omega
 have hl := lay_writes (t.take n.toNat) s d.b h.base hfit
 rw [← writes_take, ← h.waits] at hl
 have e : (crashD d n).b = layAll d.b (d.ws.take n.toNat) := rfl
 have hrd := begins_read hl.1 hr hd
 refine ⟨hl.1, hl.2, hrd.1, hrd.2, begins_bytes hl.1 hr hd, ⟨hl.1, rfl, hr, hd, fun x hx => (by cases hx), fun x hx => (by cases hx), by rw [List.append_nil]; show _ ≤ (layAll d.b (d.ws.take n.toNat)).length; rw [hl.2]; exact hfit, (List.append_nil _).symm, by rw [List.append_nil], by show (layAll d.b (d.ws.take n.toNat)).length ≤ _; rw [hl.2]; exact h.small⟩⟩
end Go.Proofs.Ytccjdefhieilpaa.VT
