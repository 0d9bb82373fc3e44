/-
 What the law VaultPlays needs of VPlays (what it does not use is left out by a program of this session, wip/tools/dce.py).
-/
import Derived.Test.YtccjdefhieilpaaRVInv
import Derived.Test.YtccjdefhieilpaaRVRefV
import Derived.Test.YtccjdefhieilpaaRVApp
import Derived.Test.YtccjdefhieilpaaRVOpenR
import Derived.Test.YtccjdefhieilpaaRVAct
import Derived.Test.YtccjdefhieilpaaRPGx4
namespace Go.Proofs.Ytccjdefhieilpaa.VT
open Go.RowKit Go.Proofs.YtccjdefhieilpaaW.PrintWords Go.Proofs.YtccjdefhieilpaaW.PrintLast Go.Proofs.YtccjdefhieilpaaW.PrintMore Go.Proofs.Ytccjdefhieilpaa.PB Go.Proofs.Ytccjdefhieilpaa.PL Go.Proofs.Ytccjdefhieilpaa.PG Go.Proofs.Ytccjdefhieilpaa.Pure
attribute [local go_sem] max2_int min2_int max_two min_two max_three min_three max_four min_four   -- for this text's walks alone
set_option linter.unusedVariables false
set_option linter.unusedSimpArgs false
def pl35.T : Bool × List (List Nat × List Nat) := (true, [([], []), ([0], [0]), ([1], [1]), ([2], [2]), ([2], [2]), ([3, 4, 2], [2, 3, 4]), ([2, 5], [2, 5]), ([6, 2], [6]), ([7], [7]), ([8, 7, 7], [7, 8]), ([7], [7]), ([10, 7], [7, 10]), ([9, 11, 9, 7], [7, 9, 11]), ([12, 7], [7, 12]), ([7, 13], [7, 13]), ([14, 12], [14]), ([15], [15]), ([16, 15, 15], [15, 16]), ([15], [15]), ([15], [15]), ([19, 15], [15, 19]), ([18, 20, 15], [15, 18, 20]), ([17, 21, 15], [15, 17, 21]), ([15, 22], [15, 22])])
def pl35.B : List Nat := [0, 1, 3, 7, 7, 31, 63, 127, 255, 511, 255, 1279, 4095, 8191, 16383, 32767, 65535, 131071, 65535, 65535, 589823, 1900543, 4194303, 8388607]
theorem pl35.tab : rtab .any (opsOf Try.f30 35) = pl35.T := by kernel_rfl
theorem pl35.bits : waitsOk pl35.T.2 pl35.B = true := by kernel_rfl
theorem Both.lt {Sd S : Nat → Prop} {w : World} {gd g : Nat} {d : D} {v : V} (h : Both Sd S w gd g d v) : ∀ k, S k ∨ Sd k → k < w.heap.size := fun k hk => hk.elim (h.vlt.lt k) (h.dev.lt k)
theorem Both.kept {Sd S S' : Nat → Prop} {w w' : World} {gd g : Nat} {d : D} {v : V} (h : Both Sd S w gd g d v) (hk : Kept w w' S') (hs : ∀ k, S k ∨ Sd k → ¬ S' k) : Both Sd S w' gd g d v := ⟨h.dev.kept hk (fun k hk' => hs k (.inr hk')), h.vlt.kept hk (fun k hk' => hs k (.inl hk')), h.apart⟩
theorem Inv.ws_len {d : D} {v : V} {s t : List S68} (h : Inv d v s t) : d.ws.length ≤ 1000000 := by
 have := h.count
 rw [h.waits, writes_length]
 omega
theorem Inv.append_b {d : D} {v : V} {s t : List S68} (h : Inv d v s t) (e : S68) : (appendV d v e).1.b = d.b := by
 have hwb : ∀ (a : Int) (xs : List Int), (writeD d a xs).1.b = d.b := fun a xs => by
  unfold writeD
  split
  ·split
   ·rfl
   ·exact (burnD_bw d).1
  ·rfl
 unfold appendV
 repeat' split
 all_goals first
  | exact hwb _ _
  | rfl
theorem flushD_b (d : D) (hf : ∀ x ∈ d.ws, 0 ≤ x.f0 ∧ x.f0.toNat + x.f1.length ≤ d.b.length) : (flushD d).1.b.length = d.b.length := by
 unfold flushD
 split
 ·split
  ·exact layAll_length d.ws d.b hf
  ·rw [(burnD_bw d).1]
 ·rfl
structure RefV (n0 : Nat) (PL O : Nat → Prop) (w : World) (gr : Nat) (d : D) (v : V) (i : Nat) : Prop where
 at_ : ∃ vr vl arm, w.heap[gr]? = some (.cells #[.string (strOfNums d.b), vr, .bool d.dead, .int .i64 arm, vl, .int .i64 v.en, .bool v.dead] 140 (0, 0)) ∧ Kd.R k166 166 w n0 (fun k => some k = vr.ownBlock) vr (wS d.ws) ∧
  Kd.V k68 68 w n0 (fun k => PL k ∧ some k ≠ vr.ownBlock) vl v.l ∧ ArmR d.fuse arm i ∧ ∀ k, vr.ownBlock = some k → ¬ O k ∧ k ≠ gr
 lt : ∀ k, PL k → k < w.heap.size
 off : ∀ k, PL k → ¬ O k ∧ k ≠ gr
 goff : ¬ O gr
section
variable {n0 : Nat} {PL PL1 O O' : Nat → Prop} {w w' w1 w2 : World} {gr : Nat} {d d' : D} {v v' : V} {i j : Nat} {vr v1 v4 : Value} {arm : Int}
theorem RefV.went (h : RefV n0 PL O w gr d v i) (hw : Went O w w') (hn : ∀ k, O' k → O k ∨ w.heap.size ≤ k) : RefV n0 PL O' w' gr d v i := by
 obtain ⟨vr, vl, arm, h1, h2, h3, h4, h5⟩ := h.at_
 exact ⟨⟨vr, vl, arm, blk_kept h1 hw.kept h.goff, Kd.R_step h2 (fun k hk hlt => hw.kept.2 k hlt (h5 k hk.symm).1), Kd.V_kept h3 hw.kept (fun k hk => (h.off k hk.1).1), h4, fun k hk => ⟨fun ho => (hn k ho).elim (h5 k hk).1 (fun h6 => by have := Kd.R_lt h2 k hk; omega), (h5 k hk).2⟩⟩,
  fun k hk => Nat.lt_of_lt_of_le (h.lt k hk) hw.kept.1, fun k hk => ⟨fun ho => (hn k ho).elim (h.off k hk).1 (fun h6 => by have := h.lt k hk; omega), (h.off k hk).2⟩, fun ho => (hn gr ho).elim h.goff (fun h6 => by have := blk_lt h1; omega)⟩
theorem RefV.below (h : RefV n0 PL O w gr d v i) (hb : Below w.heap.size w w') : RefV n0 PL O w' gr d v i := h.went (Went.of_below hb) (fun k hk => .inl hk)
theorem RefV.more (h : RefV n0 PL O w gr d v i) : RefV n0 PL O w gr d v (i + 1) := by
 obtain ⟨vr, vl, arm, h1, h2, h3, h4, h5⟩ := h.at_
 exact ⟨⟨vr, vl, arm, h1, h2, h3, h4.more (Nat.le_succ _), h5⟩, h.lt, h.off, h.goff⟩
theorem RefV.glt (h : RefV n0 PL O w gr d v i) : gr < w.heap.size := by
 obtain ⟨vr, vl, arm, h1, _⟩ := h.at_
 exact blk_lt h1
theorem refv_put (hvr : ∀ k, vr.ownBlock = some k → ¬ O k ∧ k ≠ gr) (hO : ∀ k, O k → k < w.heap.size) (hgo : ¬ O gr) (hgl : gr < w.heap.size) (hk : Kept w w1 (fun k => some k = vr.ownBlock))
  (hR : Kd.R k166 166 w1 n0 (fun k => some k = vr.ownBlock ∨ w.heap.size ≤ k) v1 (wS d'.ws)) (hV : Kd.V k68 68 w1 n0 (fun k => PL1 k ∧ some k ≠ v1.ownBlock) v4 v'.l) (hPL : ∀ k, PL1 k → (¬ O k ∧ k ≠ gr) ∨ w.heap.size ≤ k) (ha : ArmR d'.fuse arm j)
  (hg2 : w2.heap[gr]? = some (.cells #[.string (strOfNums d'.b), v1, .bool d'.dead, .int .i64 arm, v4, .int .i64 v'.en, .bool v'.dead] 140 (0, 0))) (hk2 : Kept w1 w2 (fun k => k = gr)) (hs : w2.heap.size = w1.heap.size) :
  RefV n0 (fun k => PL1 k ∧ k < w1.heap.size) O w2 gr d' v' j ∧ Kept w w2 (fun k => some k = vr.ownBlock ∨ k = gr) := by
 have hpl : ∀ k, PL1 k → ¬ O k ∧ k ≠ gr := fun k hk => (hPL k hk).elim id (fun h => ⟨fun ho => by have := hO k ho; omega, by omega⟩)
 have h1 : ∀ k, v1.ownBlock = some k → ¬ O k ∧ k ≠ gr := fun k hk => (hR.1 k hk).elim (fun e => hvr k e.symm) (fun h => ⟨fun ho => by have := hO k ho; omega, by omega⟩)
 refine ⟨⟨⟨v1, v4, arm, hg2, Kd.R_step (Kd.R_tight rfl hR) (fun k hk hlt => hk2.2 k hlt (h1 k hk.symm).2), ?_, ha, h1⟩, fun k hk => by rw [hs]; exact hk.2, fun k hk => hpl k hk.1, hgo⟩, ?_⟩
 ·exact Kd.V_mono (Kd.V_kept (Kd.V_bound hV) hk2 (fun k hk => (hpl k hk.1.1).2)) (fun k hk => ⟨⟨hk.1.1, hk.2⟩, hk.1.2⟩)
 ·exact ⟨Nat.le_trans hk.1 hk2.1, fun k hlt hn => (hk2.2 k (Nat.lt_of_lt_of_le hlt hk.1) (fun e => hn (.inr e))).trans (hk.2 k hlt (fun e => hn (.inl e)))⟩
end
set_option maxHeartbeats 32000000 in
set_option maxRecDepth 100000 in
theorem plays_calls (w : World) (sz : Int) (A : Option Addr) (c : Nat) (l : List S70) (hC : k70.C w A l.length l) (hc : l.length ≤ c) (hb : ∀ x ∈ l, Bytes x.e.f1 ∧ x.n ≤ 9223372036854775807) :
  Calls Try.prog 30 #[.int .i64 sz, .slice A l.length c] w fun e w' => e = .returned (.bool true) ∧ Below w.heap.size w w' := by
 have HF := Aside0.mk (Kd.C_F heap70 hC)
 have HBY := Aside0.mk hb
 have HB := Aside0.mk (Below.refl w.heap.size w)
 have hu70 := Try.underlying70
 have hu68 := Try.underlying68
 have hu140 := Try.underlying140
 have hu89 := Try.underlying89
 clear hC hc hb
 by_cases c1 : sz < 1
 ·have cb1 : decide (sz < 1) = true := decide_eq_true c1
  go_enter Try.func30, Try.ntmps30
  go_wp2_with fail
  refine (heads_calls _).mono ?_
  rintro e wh ⟨rfl, hb⟩
  have HBh := Aside0.mk (hb)
  clear hb
  go_wp2_with fail
  go_ret
  exact ⟨rfl, HBh.out⟩
 ·have cb1 : decide (sz < 1) = false := decide_eq_false c1
  by_cases c2 : (400 : Int) < sz
  ·have cb2 : decide ((400 : Int) < sz) = true := decide_eq_true c2
   go_enter Try.func30, Try.ntmps30
   go_wp2_with fail
   refine (heads_calls _).mono ?_
   rintro e wh ⟨rfl, hb⟩
   have HBh := Aside0.mk (hb)
   clear hb
   go_wp2_with fail
   go_ret
   exact ⟨rfl, HBh.out⟩
  ·have cb2 : decide ((400 : Int) < sz) = false := decide_eq_false c2
   obtain ⟨n, rfl⟩ : ∃ n : Nat, sz = (n : Int) := ⟨sz.toNat, by omega⟩
   have h1 : 1 ≤ n := by omega
   have h2 : n ≤ 400 := by omega
   have H1 := Aside0.mk h1
   have H2 := Aside0.mk h2
   go_enter Try.func30, Try.ntmps30
   go_wp2_with fail
   refine (new_calls w n H1.out (by have := H2.out; omega)).mono ?_
   rintro e w1 ⟨gd, Sd0, rfl, hd, hs, hb⟩
   have HD1 := Aside0.mk hd
   have HS1 := Aside0.mk hs
   have HB1 := Aside0.mk hb
   clear hd hs hb c1 c2 h1 h2
   go_wp2_with fail
   refine (open_calls HD1.out rfl (zeros_bytes n)).mono ?_
   rintro e w2 ⟨g0, S0, rfl, hB, hsS, hb2⟩
   have hz := readS_zeros n
   have hv : (⟨readS (layAll (newD n).b (newD n).ws), (readN (layAll (newD n).b (newD n).ws) : Int), false⟩ : V) = ⟨[], 0, false⟩ := by
    show (⟨readS (List.replicate n 0), (readN (List.replicate n 0) : Int), false⟩ : V) = _
    rw [hz.1, hz.2]
    rfl
   rw [hv] at hB
   have HB2 := Aside0.mk (below_step HB1.out hb2)
   have H2' := Aside0.mk hB
   have HS2 := Aside0.mk (show ∀ k, S0 k ∨ Sd0 k → w.heap.size ≤ k from fun k hk => hk.elim (fun h => Nat.le_trans HB1.out.size (hsS k h)) (HS1.out k))
   have HI0 := Aside0.mk (Inv.new n H1.out (by have := H2.out; omega))
   have HZ := Aside0.mk hz
   clear hB hb2 hv hsS hz
   go_wp2_with fail
   refine (horariumref48_NewDevice.calls (n : Int) (strOfNums (List.replicate n 0)) [] false (-1) _ (by unfold horariumref48_NewDevice.f; rw [if_pos (by omega), if_pos (by have := H2.out; omega), Int.toNat_natCast])).mono ?_
   rintro e w3 ⟨vr0, rfl, hr3, hb3⟩
   have HR3 := Aside0.mk (Kd.R_mono (Kd.R_bound hr3) (ok' := fun k => w2.heap.size ≤ k ∧ k < w3.heap.size) (fun k hk => ⟨hk.2.1, hk.2.2.1⟩))
   have HH3 := Aside0.mk (H2'.out.below hb3)
   have HB3 := Aside0.mk (below_step HB2.out hb3)
   have S23 := Aside0.mk hb3.size
   obtain ⟨Ar, cr, hvr⟩ := Kd.R_slice hr3
   have hvr : vr0 = .slice Ar 0 cr := hvr
   subst hvr
   clear hr3 hb3
   go_wp2_with fail
   have hnl : (newD n).b.length = n := List.length_replicate ..
   refine (ropen_calls (newD n) (-1) Ar cr (Kd.R_reads' HR3.out).2.2 (Kd.R_reads' HR3.out).2.1 (by rw [hnl]; have := H2.out; omega) (Nat.zero_le _) (fun x hx => by cases hx) (zeros_bytes n)).mono ?_
   rintro e w4 ⟨vl0, rfl, hv4, hb4⟩
   have hv4 : Kd.V k68 68 w4 0 (fun k => w3.heap.size ≤ k) vl0 [] := by
    have h : Kd.V k68 68 w4 0 (fun k => w3.heap.size ≤ k) vl0 (readS (List.replicate n 0)) := hv4
    rw [HZ.out.1] at h
    exact h
   have hqz : (readN (layAll (newD n).b (newD n).ws) : Int) = 0 := by
    show (readN (List.replicate n 0) : Int) = 0
    rw [HZ.out.2]
    rfl
   rw [hqz]
   obtain ⟨Al, cl, hvl⟩ := Kd.V_slice hv4
   have hvl : vl0 = .slice Al 0 cl := hvl
   subst hvl
   have HV4 := Aside0.mk hv4
   have HR4 := Aside0.mk (Kd.R_below HR3.out hb4)
   have HH4 := Aside0.mk (HH3.out.below hb4)
   have HB4 := Aside0.mk (below_step HB3.out hb4)
   have S34 := Aside0.mk hb4.size
   clear hv4 hb4 hqz hnl
   obtain ⟨M, hM1, hM2, hM3⟩ : ∃ M, M ≤ l.length ∧ M ≤ 40 ∧ (M = l.length ∨ M = 40) := by
    by_cases h : l.length ≤ 40
    ·exact ⟨l.length, Nat.le_refl _, h, .inl rfl⟩
    ·exact ⟨40, by omega, Nat.le_refl _, .inr rfl⟩
   have HM1 := Aside0.mk hM1
   have HM2 := Aside0.mk hM2
   have HM3 := Aside0.mk hM3
   clear hM1 hM2 hM3
   go_wp2_with (first | ((with_reducible refine gate_dst (N := 8) rfl ?_); refine box_event ?hg (N := 8) ?hd (cs := #[.string (⟨#[]⟩ : ByteArray), .slice none 0 0, .bool false, .int .i64 0, .slice none 0 0, .int .i64 0, .bool false]) (t := 140) ?hr ?_; (case hd => rfl); (case hg => rfl); (case hr => first | (go_simp; done) | (go_simp; rfl)); intro gr hgx w5 hbox hb; have BX := Aside0.mk hbox; have HBB := Aside0.mk hb; have GX := Aside0.mk hgx; clear hbox hb hgx; have hy0 : w5.cell? ⟨gr, 0, none⟩ = some (.string (⟨#[]⟩ : ByteArray)) := (blk_cell BX.out 0).trans rfl; have hz0 := blk_frozen BX.out 0; have hy1 : w5.cell? ⟨gr, 1, none⟩ = some (.slice none 0 0) := (blk_cell BX.out 1).trans rfl; have hz1 := blk_frozen BX.out 1; have hy2 : w5.cell? ⟨gr, 2, none⟩ = some (.bool false) := (blk_cell BX.out 2).trans rfl; have hz2 := blk_frozen BX.out 2; have hy3 : w5.cell? ⟨gr, 3, none⟩ = some (.int .i64 0) := (blk_cell BX.out 3).trans rfl; have hz3 := blk_frozen BX.out 3; have hy4 : w5.cell? ⟨gr, 4, none⟩ = some (.slice none 0 0) := (blk_cell BX.out 4).trans rfl; have hz4 := blk_frozen BX.out 4; have hy5 : w5.cell? ⟨gr, 5, none⟩ = some (.int .i64 0) := (blk_cell BX.out 5).trans rfl; have hz5 := blk_frozen BX.out 5; have hy6 : w5.cell? ⟨gr, 6, none⟩ = some (.bool false) := (blk_cell BX.out 6).trans rfl; have hz6 := blk_frozen BX.out 6) | ((with_reducible refine gate_store (t := 140) (p := 8) rfl ?_); refine store_event (t := 140) (p := 8) (v := .tmp 35) (w1 := (((((((w5.setCell ⟨gr, 0, none⟩ (.string (strOfNums (List.replicate n 0)))).setCell ⟨gr, 1, none⟩ (.slice Ar 0 cr)).setCell ⟨gr, 2, none⟩ (.bool false)).setCell ⟨gr, 3, none⟩ (.int .i64 (-1))).setCell ⟨gr, 4, none⟩ (.slice Al 0 cl)).setCell ⟨gr, 5, none⟩ (.int .i64 0)).setCell ⟨gr, 6, none⟩ (.bool false))) ?hg ?ho ?hn ?hr ?_; (case ho => rfl); (case hg => rfl); (case hn => rfl); (case hr => first | (go_simp; done) | (go_simp; rfl)); intro w6 hw3; have hb6 : Below w4.heap.size w4 w6 := (by rw [hw3]; exact (((((((HBB.out.setCell (p := ⟨gr, 0, none⟩) (by rw [GX.out]; exact Nat.le_refl _) _).setCell (p := ⟨gr, 1, none⟩) (by rw [GX.out]; exact Nat.le_refl _) _).setCell (p := ⟨gr, 2, none⟩) (by rw [GX.out]; exact Nat.le_refl _) _).setCell (p := ⟨gr, 3, none⟩) (by rw [GX.out]; exact Nat.le_refl _) _).setCell (p := ⟨gr, 4, none⟩) (by rw [GX.out]; exact Nat.le_refl _) _).setCell (p := ⟨gr, 5, none⟩) (by rw [GX.out]; exact Nat.le_refl _) _).setCell (p := ⟨gr, 6, none⟩) (by rw [GX.out]; exact Nat.le_refl _) _)); have BR6 : w6.heap[gr]? = some (.cells #[.string (strOfNums (List.replicate n 0)), .slice Ar 0 cr, .bool false, .int .i64 (-1), .slice Al 0 cl, .int .i64 0, .bool false] 140 (0, 0)) := (by rw [hw3]; exact (blk_put (blk_put (blk_put (blk_put (blk_put (blk_put (blk_put BX.out 0 _ rfl) 1 _ rfl) 2 _ rfl) 3 _ rfl) 4 _ rfl) 5 _ rfl) 6 _ rfl)); have BR6 := Aside0.mk BR6; have HB6 := Aside0.mk (below_step HB4.out hb6); have HH6 := Aside0.mk (HH4.out.below hb6); have HR6 := Aside0.mk (Kd.R_below HR4.out hb6); have HBV := Aside0.mk hb6; have HV6 := Aside0.mk (Kd.V_below HV4.out hb6); have GR6 := Aside0.mk (show w4.heap.size ≤ gr by rw [GX.out]; exact Nat.le_refl _); clear hw3 hb6 hy0 hz0 hy1 hz1 hy2 hz2 hy3 hz3 hy4 hz4 hy5 hz5 hy6 hz6 BX HBB GX))
   have HGE := Aside0.mk (show w.heap.size ≤ gr from Nat.le_trans HB4.out.size GR6.out)
   have HRB := Aside0.mk (Kd.R_base HR6.out)
   have HRL := Aside0.mk HR3.out.1
   have HRR := Aside0.mk (show RefV w.heap.size (fun k => w3.heap.size ≤ k ∧ k < w4.heap.size) (fun k => S0 k ∨ Sd0 k) w6 gr (newD n) ⟨[], 0, false⟩ 0 from ⟨⟨_, _, _, BR6.out, Kd.R_tight rfl (Kd.R_lower HR6.out HB2.out.size), Kd.V_mono (Kd.V_below (Kd.V_bound HV4.out) (HBV.out)) (fun k hk => ⟨hk, fun e => by have h1 := HRL.out k e.symm; have h2 := hk.1; omega⟩), ArmR.new 0, fun k hk => ⟨fun ho => by have h1 := H2'.out.lt k ho; have h2 := HRL.out k hk; omega, fun e => by have h1 := HRL.out k hk; have h2 := GR6.out; have h3 := S34.out; omega⟩⟩, fun k hk => by have h1 := GR6.out; have h2 := blk_lt BR6.out; have h3 := hk.2; omega, fun k hk => ⟨fun ho => by have h1 := H2'.out.lt k ho; have h2 := hk.1; have h3 := S23.out; omega, fun e => by have h1 := GR6.out; have h2 := hk.2; omega⟩, fun ho => by have h1 := H2'.out.lt gr ho; have h2 := GR6.out; have h3 := S23.out; have h4 := S34.out; omega⟩)
   go_loopg [6, 9] M (fun kq v6 v9 w' => ∃ (i g : Nat) (Sd S PL : Nat → Prop) (d : D) (v : V) (s t : List S68), v6 = .pointer (some ⟨g, 0, none⟩) ∧ v9 = .int .i64 (i : Int) ∧ Aside0 (i + kq = M) ∧ Aside0 (Both Sd S w' gd g d v) ∧ Aside0 (Inv d v s t) ∧ Aside0 (RefV w.heap.size PL (fun k => S k ∨ Sd k) w' gr d v i) ∧ Aside0 (d.b.length = n) ∧ Aside0 (∀ k, S k ∨ Sd k → w.heap.size ≤ k) ∧ Aside0 (Below w.heap.size w w'))
   case atStart => exact ⟨0, g0, Sd0, S0, _, newD n, ⟨[], 0, false⟩, [], [], rfl, rfl, ⟨Nat.zero_add _⟩, HH6, HI0, HRR, ⟨List.length_replicate ..⟩, HS2, HB6⟩
   case round =>
    clear H2' HI0 HRR HS2 HD1 HS1 HB HB1 HB2 HB3 HB4 HB6 HH3 HH4 HH6 HR3 HR4 HR6 HV4 HV6 HBV BR6 HRB HRL HZ S23 S34 GR6
    obtain ⟨i, g, Sd, S, PL, d, v, s, t, rfl, rfl, HK, HH, HI, HR, HL, HS, HB⟩ := hrel
    cases gk with
    | zero =>
     by_cases q : i < l.length
     ·have q1 := eq_true q
      have h40 : (40 : Int) ≤ (i : Int) := by have := HK.out; have := HM3.out; omega
      have q2 : decide ((i : Int) < 40) = false := decide_eq_false (by omega)
      have q3 : (i < 40) = False := eq_false (by omega)
      clear q h40
      go_wp2_with fail
      refine (heads_calls _).mono ?_
      rintro e wh ⟨rfl, hb⟩
      have HBh := Aside0.mk (below_step HB.out hb)
      clear hb
      go_wp2_with fail
      go_ret
      exact ⟨rfl, HBh.out⟩
     ·have q1 := eq_false q
      clear q
      go_wp2_with fail
      refine (heads_calls _).mono ?_
      rintro e wh ⟨rfl, hb⟩
      have HBh := Aside0.mk (below_step HB.out hb)
      clear hb
      go_wp2_with fail
      go_ret
      exact ⟨rfl, HBh.out⟩
    | succ k1 =>
     have hin : i < l.length := by have := HK.out; have := HM1.out; omega
     have hi40 : i < 40 := by have := HK.out; have := HM2.out; omega
     obtain ⟨ad, B, cb, hA, hx0, hx1, hx2, hx3, hl1, hF1⟩ := at_70F (Kd.F_step HF.out (fun k hk _ => HB.out.block k hk)) i hin
     subst hA
     have hby := HBY.out _ (rd70_mem l i hin)
     have p0 : ((0 : Int) ≤ (i : Int)) = True := eq_true (by omega)
     have q1 : (i < l.length) = True := eq_true hin
     have q2 : decide ((i : Int) < 40) = true := decide_eq_true (by omega)
     have q3 : (i < 40) = True := eq_true hi40
     generalize rd70 l i = x at *
     have HX := Aside0.mk hF1
     have HBX := Aside0.mk hby
     have HL1 := Aside0.mk hl1
     have hi2 := Aside0.mk hi40
     clear hF1 hby hl1 hin hi40
     have HG := Aside0.mk HH.out.lt
     by_cases cg : (x.e.f1.length : Int) > 61000
     ·have CG := Aside0.mk cg
      clear cg
      go_wp2_with (first | ((with_reducible refine gate_dst (N := 10) rfl ?_); refine box_event ?hg (N := 10) ?hd (cs := #[.int .i64 0, .int .i64 0, .int .i64 0, .slice none 0 0]) (t := 70) ?hr ?_; (case hd => rfl); (case hg => rfl); (case hr => first | (go_simp; done) | (go_simp; rfl)); intro gx hgx w2 hbox hb; have BX := Aside0.mk hbox; have HBB := Aside0.mk hb; have GX := Aside0.mk hgx; clear hbox hb hgx; have hy0 : w2.cell? ⟨gx, 0, none⟩ = some (.int .i64 0) := (blk_cell BX.out 0).trans rfl; have hz0 := blk_frozen BX.out 0; have hy1 : w2.cell? ⟨gx, 1, none⟩ = some (.int .i64 0) := (blk_cell BX.out 1).trans rfl; have hz1 := blk_frozen BX.out 1; have hy2 : w2.cell? ⟨gx, 2, none⟩ = some (.int .i64 0) := (blk_cell BX.out 2).trans rfl; have hz2 := blk_frozen BX.out 2; have hy3 : w2.cell? ⟨gx, 3, none⟩ = some (.slice none 0 0) := (blk_cell BX.out 3).trans rfl; have hz3 := blk_frozen BX.out 3) | ((with_reducible refine gate_store (t := 70) (p := 10) rfl ?_); refine store_event (t := 70) (p := 10) (v := .tmp 49) (w1 := ((((w2.setCell ⟨gx, 0, none⟩ (.int .i64 x.k)).setCell ⟨gx, 1, none⟩ (.int .i64 x.n)).setCell ⟨gx, 2, none⟩ (.int .i64 x.e.f0)).setCell ⟨gx, 3, none⟩ (.slice B x.e.f1.length cb))) ?hg ?ho ?hn ?hr ?_; (case ho => rfl); (case hg => rfl); (case hn => rfl); (case hr => first | (go_simp; done) | (go_simp; rfl)); intro w3 hw3; have hb3 : Below wr.heap.size wr w3 := (by rw [hw3]; exact ((((HBB.out.setCell (p := ⟨gx, 0, none⟩) (by rw [GX.out]; exact Nat.le_refl _) _).setCell (p := ⟨gx, 1, none⟩) (by rw [GX.out]; exact Nat.le_refl _) _).setCell (p := ⟨gx, 2, none⟩) (by rw [GX.out]; exact Nat.le_refl _) _).setCell (p := ⟨gx, 3, none⟩) (by rw [GX.out]; exact Nat.le_refl _) _)); have BX3 : w3.heap[gx]? = some (.cells #[.int .i64 x.k, .int .i64 x.n, .int .i64 x.e.f0, .slice B x.e.f1.length cb] 70 (0, 0)) := (by rw [hw3]; exact (blk_put (blk_put (blk_put (blk_put BX.out 0 _ rfl) 1 _ rfl) 2 _ rfl) 3 _ rfl)); have BX3 := Aside0.mk BX3; have HB3 := Aside0.mk (below_step HB.out hb3); have HH3 := Aside0.mk (HH.out.below hb3); have HR3 := Aside0.mk (HR.out.below hb3); have HX3 := Aside0.mk (Kd.F_below HX.out hb3); clear hw3 hb3 hy0 hz0 hy1 hz1 hy2 hz2 hy3 hz3 BX HBB; have hc2 : w3.cell? ⟨gx, 2, none⟩ = some (.int .i64 x.e.f0) := (blk_cell BX3.out 2).trans rfl; have hc3 : w3.cell? ⟨gx, 3, none⟩ = some (.slice B x.e.f1.length cb) := (blk_cell BX3.out 3).trans rfl))
      refine (horariumlaw48_great.calls x.e.f0 B cb x.e.f1 true _ (Kd.F_now HX3.out) HL1.out (by unfold horariumlaw48_great.f; rw [decide_eq_true CG.out])).mono ?_
      rintro e w4 ⟨rfl, hb4⟩
      have HB4 := Aside0.mk (below_step HB3.out hb4)
      clear hb4 hc2 hc3
      go_wp2_with fail
      refine (heads_calls _).mono ?_
      rintro e wh ⟨rfl, hb⟩
      have HBh := Aside0.mk (below_step HB4.out hb)
      clear hb
      go_wp2_with fail
      go_ret
      exact ⟨rfl, HBh.out⟩
     ·have CG := Aside0.mk cg
      clear cg
      go_wp2_with (first | ((with_reducible refine gate_dst (N := 10) rfl ?_); refine box_event ?hg (N := 10) ?hd (cs := #[.int .i64 0, .int .i64 0, .int .i64 0, .slice none 0 0]) (t := 70) ?hr ?_; (case hd => rfl); (case hg => rfl); (case hr => first | (go_simp; done) | (go_simp; rfl)); intro gx hgx w2 hbox hb; have BX := Aside0.mk hbox; have HBB := Aside0.mk hb; have GX := Aside0.mk hgx; clear hbox hb hgx; have hy0 : w2.cell? ⟨gx, 0, none⟩ = some (.int .i64 0) := (blk_cell BX.out 0).trans rfl; have hz0 := blk_frozen BX.out 0; have hy1 : w2.cell? ⟨gx, 1, none⟩ = some (.int .i64 0) := (blk_cell BX.out 1).trans rfl; have hz1 := blk_frozen BX.out 1; have hy2 : w2.cell? ⟨gx, 2, none⟩ = some (.int .i64 0) := (blk_cell BX.out 2).trans rfl; have hz2 := blk_frozen BX.out 2; have hy3 : w2.cell? ⟨gx, 3, none⟩ = some (.slice none 0 0) := (blk_cell BX.out 3).trans rfl; have hz3 := blk_frozen BX.out 3) | ((with_reducible refine gate_store (t := 70) (p := 10) rfl ?_); refine store_event (t := 70) (p := 10) (v := .tmp 49) (w1 := ((((w2.setCell ⟨gx, 0, none⟩ (.int .i64 x.k)).setCell ⟨gx, 1, none⟩ (.int .i64 x.n)).setCell ⟨gx, 2, none⟩ (.int .i64 x.e.f0)).setCell ⟨gx, 3, none⟩ (.slice B x.e.f1.length cb))) ?hg ?ho ?hn ?hr ?_; (case ho => rfl); (case hg => rfl); (case hn => rfl); (case hr => first | (go_simp; done) | (go_simp; rfl)); intro w3 hw3; have hb3 : Below wr.heap.size wr w3 := (by rw [hw3]; exact ((((HBB.out.setCell (p := ⟨gx, 0, none⟩) (by rw [GX.out]; exact Nat.le_refl _) _).setCell (p := ⟨gx, 1, none⟩) (by rw [GX.out]; exact Nat.le_refl _) _).setCell (p := ⟨gx, 2, none⟩) (by rw [GX.out]; exact Nat.le_refl _) _).setCell (p := ⟨gx, 3, none⟩) (by rw [GX.out]; exact Nat.le_refl _) _)); have BX3 : w3.heap[gx]? = some (.cells #[.int .i64 x.k, .int .i64 x.n, .int .i64 x.e.f0, .slice B x.e.f1.length cb] 70 (0, 0)) := (by rw [hw3]; exact (blk_put (blk_put (blk_put (blk_put BX.out 0 _ rfl) 1 _ rfl) 2 _ rfl) 3 _ rfl)); have BX3 := Aside0.mk BX3; have HB3 := Aside0.mk (below_step HB.out hb3); have HH3 := Aside0.mk (HH.out.below hb3); have HR3 := Aside0.mk (HR.out.below hb3); have HX3 := Aside0.mk (Kd.F_below HX.out hb3); clear hw3 hb3 hy0 hz0 hy1 hz1 hy2 hz2 hy3 hz3 BX HBB; have hc2 : w3.cell? ⟨gx, 2, none⟩ = some (.int .i64 x.e.f0) := (blk_cell BX3.out 2).trans rfl; have hc3 : w3.cell? ⟨gx, 3, none⟩ = some (.slice B x.e.f1.length cb) := (blk_cell BX3.out 3).trans rfl))
      refine (horariumlaw48_great.calls x.e.f0 B cb x.e.f1 false _ (Kd.F_now HX3.out) HL1.out (by unfold horariumlaw48_great.f; rw [decide_eq_false (by have := CG.out; omega)])).mono ?_
      rintro e w4 ⟨rfl, hb4⟩
      have HB4 := Aside0.mk (below_step HB3.out hb4)
      have HH4 := Aside0.mk (HH3.out.below hb4)
      have HR4 := Aside0.mk (HR3.out.below hb4)
      have HX4 := Aside0.mk (Kd.F_below HX3.out hb4)
      have BX4 := Aside0.mk (blk_below BX3.out hb4)
      clear hb4 hc2 hc3 HH3 HR3 HX3 BX3 HB3 HH HR HB hx0 hx1 hx2 hx3 p0 q1 q2 q3
      have hn1000 := Aside0.mk (show i ≤ 1000 by have := hi2.out; omega)
      have hws := Aside0.mk HI.out.ws_len
      have hvn := Aside0.mk (show v.l.length ≤ 1000000 by have h1 := HI.out.count; rw [HI.out.vl, List.length_append]; omega)
      have hc0 : w4.cell? ⟨gx, 0, none⟩ = some (.int .i64 x.k) := (blk_cell BX4.out 0).trans rfl
      have hc1 : w4.cell? ⟨gx, 1, none⟩ = some (.int .i64 x.n) := (blk_cell BX4.out 1).trans rfl
      have hc2 : w4.cell? ⟨gx, 2, none⟩ = some (.int .i64 x.e.f0) := (blk_cell BX4.out 2).trans rfl
      have hc3 : w4.cell? ⟨gx, 3, none⟩ = some (.slice B x.e.f1.length cb) := (blk_cell BX4.out 3).trans rfl
      by_cases k0 : x.k = 0 ∨ x.k = 1 ∨ x.k = 2
      ·rcases k0 with hk | hk | hk
       all_goals
        rw [hk] at hc0
        clear hk
        go_wp2_with fail
        refine (append_calls HH4.out x.e.f0 B cb x.e.f1 (Kd.F_mono HX4.out (fun k hk h => by have := HS.out k h; omega)) HL1.out (by have := CG.out; omega) HBX.out.1 hvn.out hws.out).mono ?_
        rintro e w5 ⟨rfl, hw5, Sd5, S5, hB5, hS5⟩
        have hI5 : Inv (appendV d v ⟨x.e.f0, x.e.f1⟩).1 (appendV d v ⟨x.e.f0, x.e.f1⟩).2.1 s (if (appendV d v ⟨x.e.f0, x.e.f1⟩).2.2 = 0 then t ++ [x.e] else t) := HI.out.append x.e HBX.out.1
        have hb5 : (appendV d v ⟨x.e.f0, x.e.f1⟩).1.b = d.b := HI.out.append_b x.e
        obtain ⟨d5, v5, q5, hr5⟩ : ∃ d5 v5 q5, appendV d v ⟨x.e.f0, x.e.f1⟩ = (d5, v5, q5) := ⟨_, _, _, rfl⟩
        rw [hr5] at hB5 hI5 hb5 ⊢
        have hI5 : Inv d5 v5 s (if q5 = 0 then t ++ [x.e] else t) := hI5
        have hb5 : d5.b = d.b := hb5
        have hB5 : Both Sd5 S5 w5 gd g d5 v5 := hB5
        have ZI := Aside0.mk hI5
        have ZL := Aside0.mk (show d5.b.length = n by rw [hb5]; exact HL.out)
        have H5 := Aside0.mk hB5
        have HR5 := Aside0.mk (HR4.out.went hw5 (O' := fun k => S5 k ∨ Sd5 k) hS5)
        have ZS := Aside0.mk (show ∀ k, S5 k ∨ Sd5 k → w.heap.size ≤ k from fun k hk => (hS5 k hk).elim (HS.out k) (fun h => Nat.le_trans HB4.out.size h))
        have HB5 := Aside0.mk (HB4.out.trans (hw5.to_below HB4.out.size HS.out))
        have BX5 := blk_kept BX4.out hw5.kept (fun h => by have h1 := HG.out gx h; have h2 := GX.out; omega)
        have HX5 := Aside0.mk (Kd.F_kept HX4.out hw5.kept (fun k hk h => by have := HS.out k h; omega))
        have hc2 : w5.cell? ⟨gx, 2, none⟩ = some (.int .i64 x.e.f0) := (blk_cell BX5 2).trans rfl
        have hc3 : w5.cell? ⟨gx, 3, none⟩ = some (.slice B x.e.f1.length cb) := (blk_cell BX5 3).trans rfl
        have HRQ := Aside0.mk hr5
        clear hw5 hB5 hS5 hr5 hc0 hc1 BX5 hI5 hb5
        obtain ⟨vr, vl, arm, hg1, hg2, hg4, hg3, hg5⟩ := HR5.out.at_
        obtain ⟨Ar, cr, hvr⟩ := Kd.R_slice hg2
        subst hvr
        obtain ⟨Al, cl, hvl⟩ := Kd.V_slice hg4
        subst hvl
        have hr0 : w5.cell? ⟨gr, 0, none⟩ = some (.string (strOfNums d.b)) := (blk_cell hg1 0).trans rfl
        have hr1 : w5.cell? ⟨gr, 1, none⟩ = some (.slice Ar (wS d.ws).length cr) := (blk_cell hg1 1).trans rfl
        have hr2 : w5.cell? ⟨gr, 2, none⟩ = some (.bool d.dead) := (blk_cell hg1 2).trans rfl
        have hr3 : w5.cell? ⟨gr, 3, none⟩ = some (.int .i64 arm) := (blk_cell hg1 3).trans rfl
        have hr4 : w5.cell? ⟨gr, 4, none⟩ = some (.slice Al v.l.length cl) := (blk_cell hg1 4).trans rfl
        have hr5 : w5.cell? ⟨gr, 5, none⟩ = some (.int .i64 v.en) := (blk_cell hg1 5).trans rfl
        have hr6 : w5.cell? ⟨gr, 6, none⟩ = some (.bool v.dead) := (blk_cell hg1 6).trans rfl
        have BRR := Aside0.mk hg1
        have HG2 := Aside0.mk hg2
        have HG3 := Aside0.mk hg3
        have HG4 := Aside0.mk hg4
        have HG5 := Aside0.mk hg5
        clear hg1 hg2 hg3 hg4 hg5
        by_cases cv : v.dead = true
        ·rw [cv] at hr6
         have hq : (d, v, (28 : Int)) = (d5, v5, q5) := by
          rw [← HRQ.out]
          unfold appendV
          rw [if_pos cv]
         injection hq with h1 hq
         injection hq with h2 h3
         subst h1 h2 h3
         clear cv
         have ZH := H5
         have ZR := Aside0.mk HR5.out.more
         have ZB := HB5
         clear hc2 hc3 hr0 hr1 hr2 hr3 hr4 hr5 BRR HG2 HG3 HG4 HG5 HRQ H5 HR5 HB5
         have h28 : ((28 : Int) = 0) = False := eq_false (by decide)
         obtain ⟨vr, vl, arm, hg1, hg2, hg4, hg3, hg5⟩ := ZR.out.at_
         obtain ⟨Al, cl, hvl⟩ := Kd.V_slice hg4
         subst hvl
         have hy4 : w5.cell? ⟨gr, 4, none⟩ = some (.slice Al v.l.length cl) := (blk_cell hg1 4).trans rfl
         have hy5 : w5.cell? ⟨gr, 5, none⟩ = some (.int .i64 v.en) := (blk_cell hg1 5).trans rfl
         have HV := Aside0.mk hg4
         have BG := Aside0.mk hg1
         have hct := ZI.out.count
         have HVD := Aside0.mk (show Datas v.l by rw [ZI.out.vl]; exact datas_append ZI.out.ds ZI.out.dt)
         have HVR := Aside0.mk (show Rights v.l by rw [ZI.out.vl]; exact rights_append ZI.out.rs ZI.out.rt)
         have HVN := Aside0.mk (show v.l.length ≤ 20000 by rw [ZI.out.vl, List.length_append]; exact hct)
         clear hg1 hg2 hg3 hg4 hg5 hct
         go_wp2_with fail
         refine start_ (n := 24) (S := fun w' => w'.cell? ⟨gr, 4, none⟩ = some (.slice Al v.l.length cl) ∧ w'.cell? ⟨gr, 5, none⟩ = some (.int .i64 v.en)) (ds := []) #[f_,f_,f_,f_,f_,f_,f_,f_,f_,f_,f_,f_,f_,f_,f_,f_,f_,f_,f_,f_,f_,f_,f_,f_] (by kernel_rfl) rfl rfl ⟨hy4, hy5⟩ (fun hHeld => ?_); refine with_tabW pl35.tab pl35.bits (fun HT_ HW_ => ?_)
         have YH := Aside0.mk (ZH.out.below (below_drew (Below.refl _ _))); have YR := Aside0.mk (ZR.out.below (below_drew (Below.refl _ _))); have YB := Aside0.mk (below_drew1 ZB.out); have YV := Aside0.mk (Kd.V_drew HV.out); have YG := Aside0.mk (blk_drew BG.out); clear ZH ZR ZB HV BG hy4 hy5; generalize w5.drew = wy at YH YR YB YV YG hHeld ⊢
         refine pure_ (i := 0) (N := some 113) (v := ?_) (a' := ?_) #[t_,f_,f_,f_,f_,f_,f_,f_,f_,f_,f_,f_,f_,f_,f_,f_,f_,f_,f_,f_,f_,f_,f_,f_] rfl rfl (any_of HT_.out (by kernel_rfl)) (fun _ _ _ h => h) (Or.inl ⟨by rfl, ?_⟩) ?_ ?_
         rotate_left
         ·intro w'
          go_simp
          with_reducible rfl
         rotate_left
         ·simp only [Act.put, sA, sZ, sS, i64_w, i32_w]
          rfl
         refine pure_ (i := 1) (N := some 114) (v := ?_) (a' := ?_) #[t_,t_,f_,f_,f_,f_,f_,f_,f_,f_,f_,f_,f_,f_,f_,f_,f_,f_,f_,f_,f_,f_,f_,f_] rfl rfl (any_of HT_.out (by kernel_rfl)) (fun _ _ _ h => h) (Or.inl ⟨by rfl, ?_⟩) ?_ ?_
         rotate_left
         ·intro w'
          go_simp
          with_reducible rfl
         rotate_left
         ·simp only [Act.put, sA, sZ, sS, i64_w, i32_w]
          rfl
         refine pure_ (i := 2) (N := some 115) (v := ?_) (a' := ?_) #[t_,t_,t_,f_,f_,f_,f_,f_,f_,f_,f_,f_,f_,f_,f_,f_,f_,f_,f_,f_,f_,f_,f_,f_] rfl rfl (any_of HT_.out (by kernel_rfl)) (fun _ _ _ h => h) (Or.inl ⟨by rfl, ?_⟩) ?_ ?_
         rotate_left
         ·intro w'
          go_simp
          with_reducible rfl
         rotate_left
         ·simp only [Act.put, sA, sZ, sS, i64_w, i32_w]
          rfl
         refine pure_ (i := 3) (N := some 116) (v := ?_) (a' := ?_) #[t_,t_,t_,t_,f_,f_,f_,f_,f_,f_,f_,f_,f_,f_,f_,f_,f_,f_,f_,f_,f_,f_,f_,f_] rfl rfl (any_of HT_.out (by kernel_rfl)) (fun _ _ _ h => h) (Or.inl ⟨by rfl, ?_⟩) ?_ ?_
         rotate_left
         ·intro w'
          go_simp
          with_reducible rfl
         rotate_left
         ·simp only [Act.put, sA, sZ, sS, i64_w, i32_w]
          rfl
         refine pure_ (i := 4) (N := some 117) (v := ?_) (a' := ?_) #[t_,t_,t_,t_,t_,f_,f_,f_,f_,f_,f_,f_,f_,f_,f_,f_,f_,f_,f_,f_,f_,f_,f_,f_] rfl rfl (any_of HT_.out (by kernel_rfl)) (fun _ _ _ h => h) (Or.inl ⟨by rfl, ?_⟩) ?_ ?_
         rotate_left
         ·intro w'
          go_simp
          with_reducible rfl
         rotate_left
         ·simp only [Act.put, sA, sZ, sS, i64_w, i32_w]
          rfl
         refine pure_ (i := 5) (N := some 118) (v := ?_) (a' := ?_) #[t_,t_,t_,t_,t_,t_,f_,f_,f_,f_,f_,f_,f_,f_,f_,f_,f_,f_,f_,f_,f_,f_,f_,f_] rfl rfl (any_of HT_.out (by kernel_rfl)) (fun _ _ _ h => h) (Or.inl ⟨by rfl, ?_⟩) ?_ ?_
         rotate_left
         ·intro w'
          go_simp
          with_reducible rfl
         rotate_left
         ·simp only [Act.put, sA, sZ, sS, i64_w, i32_w]
          rfl
         refine pure_ (i := 6) (N := some 119) (v := ?_) (a' := ?_) #[t_,t_,t_,t_,t_,t_,t_,f_,f_,f_,f_,f_,f_,f_,f_,f_,f_,f_,f_,f_,f_,f_,f_,f_] rfl rfl (any_of HT_.out (by kernel_rfl)) (fun _ _ _ h => h) (Or.inl ⟨by rfl, ?_⟩) ?_ ?_
         rotate_left
         ·intro w'
          go_simp
          with_reducible rfl
         rotate_left
         ·simp only [Act.put, sA, sZ, sS, i64_w, i32_w]
          rfl
         refine pure_ (i := 7) (N := some 120) (v := ?_) (a' := ?_) #[t_,t_,t_,t_,t_,t_,t_,t_,f_,f_,f_,f_,f_,f_,f_,f_,f_,f_,f_,f_,f_,f_,f_,f_] rfl rfl (any_of HT_.out (by kernel_rfl)) (fun _ _ _ h => h) (Or.inl ⟨by rfl, ?_⟩) ?_ ?_
         rotate_left
         ·intro w'
          go_simp
          with_reducible rfl
         rotate_left
         ·simp only [Act.put, sA, sZ, sS, i64_w, i32_w]
          rfl
         refine pure_ (i := 8) (N := some 121) (v := ?_) (a' := ?_) #[t_,t_,t_,t_,t_,t_,t_,t_,t_,f_,f_,f_,f_,f_,f_,f_,f_,f_,f_,f_,f_,f_,f_,f_] rfl rfl (any_of HT_.out (by kernel_rfl)) (fun _ _ _ h => h) (Or.inl ⟨by rfl, ?_⟩) ?_ ?_
         rotate_left
         ·intro w'
          go_simp
          with_reducible rfl
         rotate_left
         ·simp only [Act.put, sA, sZ, sS, i64_w, i32_w]
          rfl
         refine pure_ (i := 10) (N := some 123) (v := ?_) (a' := ?_) #[t_,t_,t_,t_,t_,t_,t_,t_,t_,f_,t_,f_,f_,f_,f_,f_,f_,f_,f_,f_,f_,f_,f_,f_] rfl rfl (any_of HT_.out (by kernel_rfl)) (fun _ _ _ h => h) (Or.inl ⟨by rfl, ?_⟩) ?_ ?_
         rotate_left
         ·intro w'
          go_simp
          with_reducible rfl
         rotate_left
         ·simp only [Act.put, sA, sZ, sS, i64_w, i32_w]
          rfl
         refine take_ (i := 11) (N := some 124) (v := ?_) (a' := ?_) #[t_,t_,t_,t_,t_,t_,t_,t_,t_,f_,t_,t_,f_,f_,f_,f_,f_,f_,f_,f_,f_,f_,f_,f_] rfl rfl (take_ofW HT_.out HW_.out (by kernel_rfl)) (fun _ _ _ h => h) (Or.inl ⟨by rfl, ?_⟩) hHeld ?_ ?_
         rotate_left
         ·rintro w' ⟨s0, s1⟩
          go_simp
          with_reducible rfl
         rotate_left
         ·simp only [Act.put, sA, sZ, sS, i64_w, i32_w]
          rfl
         refine one_ (i := 9) (N := some 122) #[t_,t_,t_,t_,t_,t_,t_,t_,t_,t_,t_,t_,f_,f_,f_,f_,f_,f_,f_,f_,f_,f_,f_,f_] rfl rfl (one_of HT_.out (by kernel_rfl)) (by decide) (fun K hK => ?_)
         refine goes_ Try.func67 (by kernel_rfl) rfl #[.pointer (some ⟨g, 0, none⟩)] (by rfl) rfl rfl (by (try simp only [List.map_toArray, List.map_cons, List.map_nil]); first | done | rfl) ?_
         refine (entries_calls YH.out.vlt (by have := HVN.out; omega) (fun y hy => (HVR.out y hy).2.2)).mono ?_
         rintro e wx ⟨ux, rfl, hux, hbx⟩
         refine ⟨_, rfl, ?_⟩
         obtain ⟨Ax, cx, hux'⟩ := Kd.S_slice hux
         subst hux'
         have XU := Aside0.mk hux
         have XL := Aside0.mk hbx
         have XG := blk_below YG.out hbx
         clear hux hbx
         refine hK.out _ _ ⟨(blk_cell XG 4).trans rfl, (blk_cell XG 5).trans rfl⟩ (fun hHeld => ?_)
         clear hK K
         refine norm_ (a' := ?_) ?_ ?_
         rotate_left
         ·show Act.put _ (some 122) _ = _
          simp only [Act.put, sA, sZ, sS, i64_w, i32_w]
          rfl
         clear XG
         refine one_ (i := 12) (N := some 125) #[t_,t_,t_,t_,t_,t_,t_,t_,t_,t_,t_,t_,t_,f_,f_,f_,f_,f_,f_,f_,f_,f_,f_,f_] rfl rfl (one_of HT_.out (by kernel_rfl)) (by decide) (fun K hK => ?_)
         refine goes_ Try.func68 (by kernel_rfl) rfl #[.slice Ax v.l.length cx, .slice Al v.l.length cl] (by rfl) rfl rfl (by (try simp only [List.map_toArray, List.map_cons, List.map_nil]); first | done | rfl) ?_
         obtain ⟨ks, hks⟩ : ∃ ks, v.l.length + 2 ≤ ks := ⟨_, Nat.le_refl _⟩
         refine (horariumref47_Same.calls ks Ax cx v.l Al cl v.l true _ (Kd.S_reads' XU.out).2.2 (Kd.S_reads' XU.out).2.1 (Kd.V_reads' (Kd.V_below YV.out XL.out)).2.2 (Kd.V_reads' (Kd.V_below YV.out XL.out)).2.1 ((rsame_eq ks v.l v.l HVD.out HVD.out (by have := HVN.out; omega) hks).trans (congrArg some (decide_eq_true rfl)))).mono ?_
         rintro e wv ⟨rfl, hdv⟩
         refine ⟨_, rfl, ?_⟩
         have VL := Aside0.mk (below_step XL.out hdv.below)
         have VG := blk_below YG.out VL.out
         have VH := Aside0.mk (YH.out.below VL.out)
         clear hdv hks
         refine hK.out _ _ ⟨(blk_cell VG 4).trans rfl, (blk_cell VG 5).trans rfl⟩ (fun hHeld => ?_)
         clear hK K
         refine norm_ (a' := ?_) ?_ ?_
         rotate_left
         ·show Act.put _ (some 125) _ = _
          simp only [Act.put, sA, sZ, sS, i64_w, i32_w]
          rfl
         clear VG
         refine pure_ (i := 13) (N := some 126) (v := ?_) (a' := ?_) #[t_,t_,t_,t_,t_,t_,t_,t_,t_,t_,t_,t_,t_,t_,f_,f_,f_,f_,f_,f_,f_,f_,f_,f_] rfl rfl (any_of HT_.out (by kernel_rfl)) (fun _ _ _ h => h) (Or.inl ⟨by rfl, ?_⟩) ?_ ?_
         rotate_left
         ·intro w'
          go_simp
          with_reducible rfl
         rotate_left
         ·simp only [Act.put, sA, sZ, sS, i64_w, i32_w]
          rfl
         refine pure_ (i := 14) (N := some 127) (v := ?_) (a' := ?_) #[t_,t_,t_,t_,t_,t_,t_,t_,t_,t_,t_,t_,t_,t_,t_,f_,f_,f_,f_,f_,f_,f_,f_,f_] rfl rfl (any_of HT_.out (by kernel_rfl)) (fun _ _ _ h => h) (Or.inl ⟨by rfl, ?_⟩) ?_ ?_
         rotate_left
         ·intro w'
          go_simp
          with_reducible rfl
         rotate_left
         ·simp only [Act.put, sA, sZ, sS, i64_w, i32_w]
          rfl
         refine pure_ (i := 15) (N := some 128) (v := ?_) (a' := ?_) #[t_,t_,t_,t_,t_,t_,t_,t_,t_,t_,t_,t_,t_,t_,t_,t_,f_,f_,f_,f_,f_,f_,f_,f_] rfl rfl (any_of HT_.out (by kernel_rfl)) (fun _ _ _ h => h) (Or.inl ⟨by rfl, ?_⟩) ?_ ?_
         rotate_left
         ·intro w'
          go_simp
          with_reducible rfl
         rotate_left
         ·simp only [Act.put, sA, sZ, sS, i64_w, i32_w]
          rfl
         refine pure_ (i := 16) (N := some 129) (v := ?_) (a' := ?_) #[t_,t_,t_,t_,t_,t_,t_,t_,t_,t_,t_,t_,t_,t_,t_,t_,t_,f_,f_,f_,f_,f_,f_,f_] rfl rfl (any_of HT_.out (by kernel_rfl)) (fun _ _ _ h => h) (Or.inl ⟨by rfl, ?_⟩) ?_ ?_
         rotate_left
         ·intro w'
          go_simp
          with_reducible rfl
         rotate_left
         ·simp only [Act.put, sA, sZ, sS, i64_w, i32_w]
          rfl
         refine pure_ (i := 18) (N := some 131) (v := ?_) (a' := ?_) #[t_,t_,t_,t_,t_,t_,t_,t_,t_,t_,t_,t_,t_,t_,t_,t_,t_,f_,t_,f_,f_,f_,f_,f_] rfl rfl (any_of HT_.out (by kernel_rfl)) (fun _ _ _ h => h) (Or.inl ⟨by rfl, ?_⟩) ?_ ?_
         rotate_left
         ·intro w'
          go_simp
          with_reducible rfl
         rotate_left
         ·simp only [Act.put, sA, sZ, sS, i64_w, i32_w]
          rfl
         refine pure_ (i := 19) (N := some 132) (v := ?_) (a' := ?_) #[t_,t_,t_,t_,t_,t_,t_,t_,t_,t_,t_,t_,t_,t_,t_,t_,t_,f_,t_,t_,f_,f_,f_,f_] rfl rfl (any_of HT_.out (by kernel_rfl)) (fun _ _ _ h => h) (Or.inl ⟨by rfl, ?_⟩) ?_ ?_
         rotate_left
         ·intro w'
          go_simp
          with_reducible rfl
         rotate_left
         ·simp only [Act.put, sA, sZ, sS, i64_w, i32_w]
          rfl
         refine take_ (i := 20) (N := some 133) (v := ?_) (a' := ?_) #[t_,t_,t_,t_,t_,t_,t_,t_,t_,t_,t_,t_,t_,t_,t_,t_,t_,f_,t_,t_,t_,f_,f_,f_] rfl rfl (take_ofW HT_.out HW_.out (by kernel_rfl)) (fun _ _ _ h => h) (Or.inl ⟨by rfl, ?_⟩) hHeld ?_ ?_
         rotate_left
         ·rintro w' ⟨s0, s1⟩
          go_simp
          with_reducible rfl
         rotate_left
         ·simp only [Act.put, sA, sZ, sS, i64_w, i32_w]
          rfl
         refine pure_ (i := 21) (N := some 134) (v := ?_) (a' := ?_) #[t_,t_,t_,t_,t_,t_,t_,t_,t_,t_,t_,t_,t_,t_,t_,t_,t_,f_,t_,t_,t_,t_,f_,f_] rfl rfl (any_of HT_.out (by kernel_rfl)) (fun _ _ _ h => h) (Or.inl ⟨by rfl, ?_⟩) ?_ ?_
         rotate_left
         ·intro w'
          go_simp
          with_reducible rfl
         rotate_left
         ·simp only [Act.put, sA, sZ, sS, i64_w, i32_w]
          rfl
         refine one_ (i := 17) (N := some 130) #[t_,t_,t_,t_,t_,t_,t_,t_,t_,t_,t_,t_,t_,t_,t_,t_,t_,t_,t_,t_,t_,t_,f_,f_] rfl rfl (one_of HT_.out (by kernel_rfl)) (by decide) (fun K hK => ?_)
         refine goes_ Try.func113 (by kernel_rfl) rfl #[.pointer (some ⟨g, 0, none⟩)] (by rfl) rfl rfl (by (try simp only [List.map_toArray, List.map_cons, List.map_nil]); first | done | rfl) ?_
         refine (room_calls VH.out.dev VH.out.vlt).mono ?_
         rintro e wu ⟨rfl, hbu⟩
         refine ⟨_, rfl, ?_⟩
         rw [ZL.out]
         have UL := Aside0.mk (below_step VL.out hbu)
         have UG := blk_below YG.out UL.out
         clear hbu
         refine hK.out _ _ ⟨(blk_cell UG 4).trans rfl, (blk_cell UG 5).trans rfl⟩ (fun hHeld => ?_)
         clear hK K
         refine norm_ (a' := ?_) ?_ ?_
         rotate_left
         ·show Act.put _ (some 130) _ = _
          simp only [Act.put, sA, sZ, sS, i64_w, i32_w]
          rfl
         clear UG
         refine pure_ (i := 22) (N := some 135) (v := ?_) (a' := ?_) #[t_,t_,t_,t_,t_,t_,t_,t_,t_,t_,t_,t_,t_,t_,t_,t_,t_,t_,t_,t_,t_,t_,t_,f_] rfl rfl (any_of HT_.out (by kernel_rfl)) (fun _ _ _ h => h) (Or.inl ⟨by rfl, ?_⟩) ?_ ?_
         rotate_left
         ·intro w'
          go_simp
          with_reducible rfl
         rotate_left
         ·simp only [Act.put, sA, sZ, sS, i64_w, i32_w]
          rfl
         refine pure_ (i := 23) (N := some 136) (v := ?_) (a' := ?_) #[t_,t_,t_,t_,t_,t_,t_,t_,t_,t_,t_,t_,t_,t_,t_,t_,t_,t_,t_,t_,t_,t_,t_,t_] rfl rfl (any_of HT_.out (by kernel_rfl)) (fun _ _ _ h => h) (Or.inl ⟨by rfl, ?_⟩) ?_ ?_
         rotate_left
         ·intro w'
          go_simp
          with_reducible rfl
         rotate_left
         ·simp only [Act.put, sA, sZ, sS, i64_w, i32_w]
          rfl
         refine done_ (done_of HT_.out (by kernel_rfl)) ?_
         have UH := Aside0.mk (YH.out.below UL.out)
         have UR := Aside0.mk (YR.out.below UL.out)
         have UB := Aside0.mk (below_step YB.out UL.out)
         go_wp2_with fail
         go_roundg k1
         case measure => omega
         case rel => exact ⟨i + 1, g, Sd5, S5, PL, d, v, s, _, rfl, (by have h_ : wrap64 ((i : Int) + 1) = ((i + 1 : Nat) : Int) := (by have := hi2.out; unfold wrap64; omega); rw [h_]), ⟨by have := HK.out; omega⟩, UH, ZI, UR, ZL, ZS, UB⟩
        ·have cvf : v.dead = false := Bool.eq_false_iff.2 cv
         rw [cvf] at hr6
         have hrq : appendV d v x.e = (d5, v5, q5) := HRQ.out
         have HRX := Aside0.mk hrq
         have HCV := Aside0.mk cvf
         clear hrq cv cvf
         go_wp2_with fail
         refine (rappend_calls (e := x.e) (PL := PL) HB5.out HG2.out HG4.out HX5.out HL1.out HBX.out.1 HG3.out hn1000.out hws.out hvn.out HCV.out).mono ?_
         rintro e w6 ⟨v6, vl6, arm', rfl, hr6_, hv6_, hb6, hk6, ha6⟩
         rw [HRX.out] at hr6_ hv6_ ha6 ⊢
         have hr6_ : Kd.R k166 166 w6 w.heap.size (fun k => some k = (Value.slice Ar (wS d.ws).length cr).ownBlock ∨ w5.heap.size ≤ k) v6 (wS d5.ws) := hr6_
         have hv6_ : Kd.V k68 68 w6 w.heap.size (fun k => ((some k = (Value.slice Ar (wS d.ws).length cr).ownBlock ∨ PL k ∨ k < w.heap.size) ∨ w5.heap.size ≤ k) ∧ some k ≠ v6.ownBlock) vl6 v5.l := hv6_
         have HA6 := Aside0.mk (show ArmR d5.fuse arm' (i + 1) from ha6)
         obtain ⟨A6, c6, hv6⟩ := Kd.R_slice hr6_
         subst hv6
         obtain ⟨L6, k6, hl6⟩ := Kd.V_slice hv6_
         subst hl6
         clear ha6
         have HR6 := Aside0.mk hr6_
         have HV6 := Aside0.mk hv6_
         have HB6 := Aside0.mk hb6
         have HK6 := Aside0.mk hk6
         have BR6 := Aside0.mk (blk_kept BRR.out HK6.out (fun e => (HG5.out gr e.symm).2 rfl))
         have HPL := Aside0.mk (show ∀ k, ((some k = (Value.slice Ar (wS d.ws).length cr).ownBlock ∨ PL k ∨ k < w.heap.size) ∨ w5.heap.size ≤ k) → (¬ (S5 k ∨ Sd5 k) ∧ k ≠ gr) ∨ w5.heap.size ≤ k from fun k hk => hk.elim (fun h => .inl (h.elim (fun e => HG5.out k e.symm) (fun h => h.elim (HR5.out.off k) (fun h => ⟨fun ho => by have := ZS.out k ho; omega, by have := HGE.out; omega⟩)))) .inr)
         clear hr6_ hv6_ hb6 hk6 hc2 hc3 hr0 hr1 hr2 hr3 hr4 hr5 hr6
         have HO5 := Aside0.mk H5.out.lt
         have HGO := Aside0.mk HR5.out.goff
         have HGL := Aside0.mk HR5.out.glt
         have hy0 : w6.cell? ⟨gr, 0, none⟩ = some (.string (strOfNums d.b)) := (blk_cell BR6.out 0).trans rfl
         have hz0 := blk_frozen BR6.out 0
         have hy1 : w6.cell? ⟨gr, 1, none⟩ = some (.slice Ar (wS d.ws).length cr) := (blk_cell BR6.out 1).trans rfl
         have hz1 := blk_frozen BR6.out 1
         have hy2 : w6.cell? ⟨gr, 2, none⟩ = some (.bool d.dead) := (blk_cell BR6.out 2).trans rfl
         have hz2 := blk_frozen BR6.out 2
         have hy3 : w6.cell? ⟨gr, 3, none⟩ = some (.int .i64 arm) := (blk_cell BR6.out 3).trans rfl
         have hz3 := blk_frozen BR6.out 3
         have hy4 : w6.cell? ⟨gr, 4, none⟩ = some (.slice Al v.l.length cl) := (blk_cell BR6.out 4).trans rfl
         have hz4 := blk_frozen BR6.out 4
         have hy5 : w6.cell? ⟨gr, 5, none⟩ = some (.int .i64 v.en) := (blk_cell BR6.out 5).trans rfl
         have hz5 := blk_frozen BR6.out 5
         have hy6 : w6.cell? ⟨gr, 6, none⟩ = some (.bool v.dead) := (blk_cell BR6.out 6).trans rfl
         have hz6 := blk_frozen BR6.out 6
         go_wp2_with ((with_reducible refine gate_store (t := 140) (p := 8) rfl ?_); refine store_event (t := 140) (p := 8) (v := .tmp 71) (w1 := (((((((w6.setCell ⟨gr, 0, none⟩ (.string (strOfNums d5.b))).setCell ⟨gr, 1, none⟩ (.slice A6 (wS d5.ws).length c6)).setCell ⟨gr, 2, none⟩ (.bool d5.dead)).setCell ⟨gr, 3, none⟩ (.int .i64 arm')).setCell ⟨gr, 4, none⟩ (.slice L6 v5.l.length k6)).setCell ⟨gr, 5, none⟩ (.int .i64 v5.en)).setCell ⟨gr, 6, none⟩ (.bool v5.dead))) ?hg ?ho ?hn ?hr ?_; (case ho => rfl); (case hg => rfl); (case hn => rfl); (case hr => first | (go_simp; done) | (go_simp; rfl)); intro w7 hw3; have hg7 : w7.heap[gr]? = some (.cells #[.string (strOfNums d5.b), .slice A6 (wS d5.ws).length c6, .bool d5.dead, .int .i64 arm', .slice L6 v5.l.length k6, .int .i64 v5.en, .bool v5.dead] 140 (0, 0)) := (by rw [hw3]; exact (blk_put (blk_put (blk_put (blk_put (blk_put (blk_put (blk_put BR6.out 0 _ rfl) 1 _ rfl) 2 _ rfl) 3 _ rfl) 4 _ rfl) 5 _ rfl) 6 _ rfl)); have hk7 : Kept w6 w7 (fun k => k = gr) := (by rw [hw3]; exact ((((((((Kept.refl w6 (fun k => k = gr)).setCell (.inl rfl) _).setCell (.inl rfl) _).setCell (.inl rfl) _).setCell (.inl rfl) _).setCell (.inl rfl) _).setCell (.inl rfl) _).setCell (.inl rfl) _)); have hs7 : w7.heap.size = w6.heap.size := (by rw [hw3]; simp only [size_set]); have hz_ := refv_put (O := (fun k => S5 k ∨ Sd5 k)) (PL1 := (fun k => (some k = (Value.slice Ar (wS d.ws).length cr).ownBlock ∨ PL k ∨ k < w.heap.size) ∨ w5.heap.size ≤ k)) HG5.out HO5.out HGO.out HGL.out HK6.out HR6.out HV6.out HPL.out HA6.out hg7 hk7 hs7; have ZR := Aside0.mk hz_.1; have ZK := Aside0.mk hz_.2; have ZB := Aside0.mk (show Below w.heap.size w w7 by rw [hw3]; exact (((((((HB6.out.setCell (p := ⟨gr, 0, none⟩) HGE.out _).setCell (p := ⟨gr, 1, none⟩) HGE.out _).setCell (p := ⟨gr, 2, none⟩) HGE.out _).setCell (p := ⟨gr, 3, none⟩) HGE.out _).setCell (p := ⟨gr, 4, none⟩) HGE.out _).setCell (p := ⟨gr, 5, none⟩) HGE.out _).setCell (p := ⟨gr, 6, none⟩) HGE.out _)); clear hw3 hg7 hk7 hs7 hz_ hy0 hz0 hy1 hz1 hy2 hz2 hy3 hz3 hy4 hz4 hy5 hz5 hy6 hz6)
         have ZH := Aside0.mk (H5.out.kept ZK.out (fun k hk e => e.elim (fun e => (HG5.out k e.symm).1 hk) (fun e => HGO.out (e ▸ hk))))
         clear HG2 HG3 HG4 HRX HA6 HR6 HV6 HK6 BR6 BRR HR5 H5 HB5 HB6
         obtain ⟨vr, vl, arm, hg1, hg2, hg4, hg3, hg5⟩ := ZR.out.at_
         obtain ⟨Al, cl, hvl⟩ := Kd.V_slice hg4
         subst hvl
         have hy4 : w7.cell? ⟨gr, 4, none⟩ = some (.slice Al v5.l.length cl) := (blk_cell hg1 4).trans rfl
         have hy5 : w7.cell? ⟨gr, 5, none⟩ = some (.int .i64 v5.en) := (blk_cell hg1 5).trans rfl
         have HV := Aside0.mk hg4
         have BG := Aside0.mk hg1
         have hct := ZI.out.count
         have HVD := Aside0.mk (show Datas v5.l by rw [ZI.out.vl]; exact datas_append ZI.out.ds ZI.out.dt)
         have HVR := Aside0.mk (show Rights v5.l by rw [ZI.out.vl]; exact rights_append ZI.out.rs ZI.out.rt)
         have HVN := Aside0.mk (show v5.l.length ≤ 20000 by rw [ZI.out.vl, List.length_append]; exact hct)
         clear hg1 hg2 hg3 hg4 hg5 hct
         go_wp2_with fail
         refine start_ (n := 24) (S := fun w' => w'.cell? ⟨gr, 4, none⟩ = some (.slice Al v5.l.length cl) ∧ w'.cell? ⟨gr, 5, none⟩ = some (.int .i64 v5.en)) (ds := []) #[f_,f_,f_,f_,f_,f_,f_,f_,f_,f_,f_,f_,f_,f_,f_,f_,f_,f_,f_,f_,f_,f_,f_,f_] (by kernel_rfl) rfl rfl ⟨hy4, hy5⟩ (fun hHeld => ?_); refine with_tabW pl35.tab pl35.bits (fun HT_ HW_ => ?_)
         have YH := Aside0.mk (ZH.out.below (below_drew (Below.refl _ _))); have YR := Aside0.mk (ZR.out.below (below_drew (Below.refl _ _))); have YB := Aside0.mk (below_drew1 ZB.out); have YV := Aside0.mk (Kd.V_drew HV.out); have YG := Aside0.mk (blk_drew BG.out); clear ZH ZR ZB HV BG hy4 hy5; generalize w7.drew = wy at YH YR YB YV YG hHeld ⊢
         refine pure_ (i := 0) (N := some 113) (v := ?_) (a' := ?_) #[t_,f_,f_,f_,f_,f_,f_,f_,f_,f_,f_,f_,f_,f_,f_,f_,f_,f_,f_,f_,f_,f_,f_,f_] rfl rfl (any_of HT_.out (by kernel_rfl)) (fun _ _ _ h => h) (Or.inl ⟨by rfl, ?_⟩) ?_ ?_
         rotate_left
         ·intro w'
          go_simp
          with_reducible rfl
         rotate_left
         ·simp only [Act.put, sA, sZ, sS, i64_w, i32_w]
          rfl
         refine pure_ (i := 1) (N := some 114) (v := ?_) (a' := ?_) #[t_,t_,f_,f_,f_,f_,f_,f_,f_,f_,f_,f_,f_,f_,f_,f_,f_,f_,f_,f_,f_,f_,f_,f_] rfl rfl (any_of HT_.out (by kernel_rfl)) (fun _ _ _ h => h) (Or.inl ⟨by rfl, ?_⟩) ?_ ?_
         rotate_left
         ·intro w'
          go_simp
          with_reducible rfl
         rotate_left
         ·simp only [Act.put, sA, sZ, sS, i64_w, i32_w]
          rfl
         refine pure_ (i := 2) (N := some 115) (v := ?_) (a' := ?_) #[t_,t_,t_,f_,f_,f_,f_,f_,f_,f_,f_,f_,f_,f_,f_,f_,f_,f_,f_,f_,f_,f_,f_,f_] rfl rfl (any_of HT_.out (by kernel_rfl)) (fun _ _ _ h => h) (Or.inl ⟨by rfl, ?_⟩) ?_ ?_
         rotate_left
         ·intro w'
          go_simp
          with_reducible rfl
         rotate_left
         ·simp only [Act.put, sA, sZ, sS, i64_w, i32_w]
          rfl
         refine pure_ (i := 3) (N := some 116) (v := ?_) (a' := ?_) #[t_,t_,t_,t_,f_,f_,f_,f_,f_,f_,f_,f_,f_,f_,f_,f_,f_,f_,f_,f_,f_,f_,f_,f_] rfl rfl (any_of HT_.out (by kernel_rfl)) (fun _ _ _ h => h) (Or.inl ⟨by rfl, ?_⟩) ?_ ?_
         rotate_left
         ·intro w'
          go_simp
          with_reducible rfl
         rotate_left
         ·simp only [Act.put, sA, sZ, sS, i64_w, i32_w]
          rfl
         refine pure_ (i := 4) (N := some 117) (v := ?_) (a' := ?_) #[t_,t_,t_,t_,t_,f_,f_,f_,f_,f_,f_,f_,f_,f_,f_,f_,f_,f_,f_,f_,f_,f_,f_,f_] rfl rfl (any_of HT_.out (by kernel_rfl)) (fun _ _ _ h => h) (Or.inl ⟨by rfl, ?_⟩) ?_ ?_
         rotate_left
         ·intro w'
          go_simp
          with_reducible rfl
         rotate_left
         ·simp only [Act.put, sA, sZ, sS, i64_w, i32_w]
          rfl
         refine pure_ (i := 5) (N := some 118) (v := ?_) (a' := ?_) #[t_,t_,t_,t_,t_,t_,f_,f_,f_,f_,f_,f_,f_,f_,f_,f_,f_,f_,f_,f_,f_,f_,f_,f_] rfl rfl (any_of HT_.out (by kernel_rfl)) (fun _ _ _ h => h) (Or.inl ⟨by rfl, ?_⟩) ?_ ?_
         rotate_left
         ·intro w'
          go_simp
          with_reducible rfl
         rotate_left
         ·simp only [Act.put, sA, sZ, sS, i64_w, i32_w]
          rfl
         refine pure_ (i := 6) (N := some 119) (v := ?_) (a' := ?_) #[t_,t_,t_,t_,t_,t_,t_,f_,f_,f_,f_,f_,f_,f_,f_,f_,f_,f_,f_,f_,f_,f_,f_,f_] rfl rfl (any_of HT_.out (by kernel_rfl)) (fun _ _ _ h => h) (Or.inl ⟨by rfl, ?_⟩) ?_ ?_
         rotate_left
         ·intro w'
          go_simp
          with_reducible rfl
         rotate_left
         ·simp only [Act.put, sA, sZ, sS, i64_w, i32_w]
          rfl
         refine pure_ (i := 7) (N := some 120) (v := ?_) (a' := ?_) #[t_,t_,t_,t_,t_,t_,t_,t_,f_,f_,f_,f_,f_,f_,f_,f_,f_,f_,f_,f_,f_,f_,f_,f_] rfl rfl (any_of HT_.out (by kernel_rfl)) (fun _ _ _ h => h) (Or.inl ⟨by rfl, ?_⟩) ?_ ?_
         rotate_left
         ·intro w'
          go_simp
          with_reducible rfl
         rotate_left
         ·simp only [Act.put, sA, sZ, sS, i64_w, i32_w]
          rfl
         refine pure_ (i := 8) (N := some 121) (v := ?_) (a' := ?_) #[t_,t_,t_,t_,t_,t_,t_,t_,t_,f_,f_,f_,f_,f_,f_,f_,f_,f_,f_,f_,f_,f_,f_,f_] rfl rfl (any_of HT_.out (by kernel_rfl)) (fun _ _ _ h => h) (Or.inl ⟨by rfl, ?_⟩) ?_ ?_
         rotate_left
         ·intro w'
          go_simp
          with_reducible rfl
         rotate_left
         ·simp only [Act.put, sA, sZ, sS, i64_w, i32_w]
          rfl
         refine pure_ (i := 10) (N := some 123) (v := ?_) (a' := ?_) #[t_,t_,t_,t_,t_,t_,t_,t_,t_,f_,t_,f_,f_,f_,f_,f_,f_,f_,f_,f_,f_,f_,f_,f_] rfl rfl (any_of HT_.out (by kernel_rfl)) (fun _ _ _ h => h) (Or.inl ⟨by rfl, ?_⟩) ?_ ?_
         rotate_left
         ·intro w'
          go_simp
          with_reducible rfl
         rotate_left
         ·simp only [Act.put, sA, sZ, sS, i64_w, i32_w]
          rfl
         refine take_ (i := 11) (N := some 124) (v := ?_) (a' := ?_) #[t_,t_,t_,t_,t_,t_,t_,t_,t_,f_,t_,t_,f_,f_,f_,f_,f_,f_,f_,f_,f_,f_,f_,f_] rfl rfl (take_ofW HT_.out HW_.out (by kernel_rfl)) (fun _ _ _ h => h) (Or.inl ⟨by rfl, ?_⟩) hHeld ?_ ?_
         rotate_left
         ·rintro w' ⟨s0, s1⟩
          go_simp
          with_reducible rfl
         rotate_left
         ·simp only [Act.put, sA, sZ, sS, i64_w, i32_w]
          rfl
         refine one_ (i := 9) (N := some 122) #[t_,t_,t_,t_,t_,t_,t_,t_,t_,t_,t_,t_,f_,f_,f_,f_,f_,f_,f_,f_,f_,f_,f_,f_] rfl rfl (one_of HT_.out (by kernel_rfl)) (by decide) (fun K hK => ?_)
         refine goes_ Try.func67 (by kernel_rfl) rfl #[.pointer (some ⟨g, 0, none⟩)] (by rfl) rfl rfl (by (try simp only [List.map_toArray, List.map_cons, List.map_nil]); first | done | rfl) ?_
         refine (entries_calls YH.out.vlt (by have := HVN.out; omega) (fun y hy => (HVR.out y hy).2.2)).mono ?_
         rintro e wx ⟨ux, rfl, hux, hbx⟩
         refine ⟨_, rfl, ?_⟩
         obtain ⟨Ax, cx, hux'⟩ := Kd.S_slice hux
         subst hux'
         have XU := Aside0.mk hux
         have XL := Aside0.mk hbx
         have XG := blk_below YG.out hbx
         clear hux hbx
         refine hK.out _ _ ⟨(blk_cell XG 4).trans rfl, (blk_cell XG 5).trans rfl⟩ (fun hHeld => ?_)
         clear hK K
         refine norm_ (a' := ?_) ?_ ?_
         rotate_left
         ·show Act.put _ (some 122) _ = _
          simp only [Act.put, sA, sZ, sS, i64_w, i32_w]
          rfl
         clear XG
         refine one_ (i := 12) (N := some 125) #[t_,t_,t_,t_,t_,t_,t_,t_,t_,t_,t_,t_,t_,f_,f_,f_,f_,f_,f_,f_,f_,f_,f_,f_] rfl rfl (one_of HT_.out (by kernel_rfl)) (by decide) (fun K hK => ?_)
         refine goes_ Try.func68 (by kernel_rfl) rfl #[.slice Ax v5.l.length cx, .slice Al v5.l.length cl] (by rfl) rfl rfl (by (try simp only [List.map_toArray, List.map_cons, List.map_nil]); first | done | rfl) ?_
         obtain ⟨ks, hks⟩ : ∃ ks, v5.l.length + 2 ≤ ks := ⟨_, Nat.le_refl _⟩
         refine (horariumref47_Same.calls ks Ax cx v5.l Al cl v5.l true _ (Kd.S_reads' XU.out).2.2 (Kd.S_reads' XU.out).2.1 (Kd.V_reads' (Kd.V_below YV.out XL.out)).2.2 (Kd.V_reads' (Kd.V_below YV.out XL.out)).2.1 ((rsame_eq ks v5.l v5.l HVD.out HVD.out (by have := HVN.out; omega) hks).trans (congrArg some (decide_eq_true rfl)))).mono ?_
         rintro e wv ⟨rfl, hdv⟩
         refine ⟨_, rfl, ?_⟩
         have VL := Aside0.mk (below_step XL.out hdv.below)
         have VG := blk_below YG.out VL.out
         have VH := Aside0.mk (YH.out.below VL.out)
         clear hdv hks
         refine hK.out _ _ ⟨(blk_cell VG 4).trans rfl, (blk_cell VG 5).trans rfl⟩ (fun hHeld => ?_)
         clear hK K
         refine norm_ (a' := ?_) ?_ ?_
         rotate_left
         ·show Act.put _ (some 125) _ = _
          simp only [Act.put, sA, sZ, sS, i64_w, i32_w]
          rfl
         clear VG
         refine pure_ (i := 13) (N := some 126) (v := ?_) (a' := ?_) #[t_,t_,t_,t_,t_,t_,t_,t_,t_,t_,t_,t_,t_,t_,f_,f_,f_,f_,f_,f_,f_,f_,f_,f_] rfl rfl (any_of HT_.out (by kernel_rfl)) (fun _ _ _ h => h) (Or.inl ⟨by rfl, ?_⟩) ?_ ?_
         rotate_left
         ·intro w'
          go_simp
          with_reducible rfl
         rotate_left
         ·simp only [Act.put, sA, sZ, sS, i64_w, i32_w]
          rfl
         refine pure_ (i := 14) (N := some 127) (v := ?_) (a' := ?_) #[t_,t_,t_,t_,t_,t_,t_,t_,t_,t_,t_,t_,t_,t_,t_,f_,f_,f_,f_,f_,f_,f_,f_,f_] rfl rfl (any_of HT_.out (by kernel_rfl)) (fun _ _ _ h => h) (Or.inl ⟨by rfl, ?_⟩) ?_ ?_
         rotate_left
         ·intro w'
          go_simp
          with_reducible rfl
         rotate_left
         ·simp only [Act.put, sA, sZ, sS, i64_w, i32_w]
          rfl
         refine pure_ (i := 15) (N := some 128) (v := ?_) (a' := ?_) #[t_,t_,t_,t_,t_,t_,t_,t_,t_,t_,t_,t_,t_,t_,t_,t_,f_,f_,f_,f_,f_,f_,f_,f_] rfl rfl (any_of HT_.out (by kernel_rfl)) (fun _ _ _ h => h) (Or.inl ⟨by rfl, ?_⟩) ?_ ?_
         rotate_left
         ·intro w'
          go_simp
          with_reducible rfl
         rotate_left
         ·simp only [Act.put, sA, sZ, sS, i64_w, i32_w]
          rfl
         refine pure_ (i := 16) (N := some 129) (v := ?_) (a' := ?_) #[t_,t_,t_,t_,t_,t_,t_,t_,t_,t_,t_,t_,t_,t_,t_,t_,t_,f_,f_,f_,f_,f_,f_,f_] rfl rfl (any_of HT_.out (by kernel_rfl)) (fun _ _ _ h => h) (Or.inl ⟨by rfl, ?_⟩) ?_ ?_
         rotate_left
         ·intro w'
          go_simp
          with_reducible rfl
         rotate_left
         ·simp only [Act.put, sA, sZ, sS, i64_w, i32_w]
          rfl
         refine pure_ (i := 18) (N := some 131) (v := ?_) (a' := ?_) #[t_,t_,t_,t_,t_,t_,t_,t_,t_,t_,t_,t_,t_,t_,t_,t_,t_,f_,t_,f_,f_,f_,f_,f_] rfl rfl (any_of HT_.out (by kernel_rfl)) (fun _ _ _ h => h) (Or.inl ⟨by rfl, ?_⟩) ?_ ?_
         rotate_left
         ·intro w'
          go_simp
          with_reducible rfl
         rotate_left
         ·simp only [Act.put, sA, sZ, sS, i64_w, i32_w]
          rfl
         refine pure_ (i := 19) (N := some 132) (v := ?_) (a' := ?_) #[t_,t_,t_,t_,t_,t_,t_,t_,t_,t_,t_,t_,t_,t_,t_,t_,t_,f_,t_,t_,f_,f_,f_,f_] rfl rfl (any_of HT_.out (by kernel_rfl)) (fun _ _ _ h => h) (Or.inl ⟨by rfl, ?_⟩) ?_ ?_
         rotate_left
         ·intro w'
          go_simp
          with_reducible rfl
         rotate_left
         ·simp only [Act.put, sA, sZ, sS, i64_w, i32_w]
          rfl
         refine take_ (i := 20) (N := some 133) (v := ?_) (a' := ?_) #[t_,t_,t_,t_,t_,t_,t_,t_,t_,t_,t_,t_,t_,t_,t_,t_,t_,f_,t_,t_,t_,f_,f_,f_] rfl rfl (take_ofW HT_.out HW_.out (by kernel_rfl)) (fun _ _ _ h => h) (Or.inl ⟨by rfl, ?_⟩) hHeld ?_ ?_
         rotate_left
         ·rintro w' ⟨s0, s1⟩
          go_simp
          with_reducible rfl
         rotate_left
         ·simp only [Act.put, sA, sZ, sS, i64_w, i32_w]
          rfl
         refine pure_ (i := 21) (N := some 134) (v := ?_) (a' := ?_) #[t_,t_,t_,t_,t_,t_,t_,t_,t_,t_,t_,t_,t_,t_,t_,t_,t_,f_,t_,t_,t_,t_,f_,f_] rfl rfl (any_of HT_.out (by kernel_rfl)) (fun _ _ _ h => h) (Or.inl ⟨by rfl, ?_⟩) ?_ ?_
         rotate_left
         ·intro w'
          go_simp
          with_reducible rfl
         rotate_left
         ·simp only [Act.put, sA, sZ, sS, i64_w, i32_w]
          rfl
         refine one_ (i := 17) (N := some 130) #[t_,t_,t_,t_,t_,t_,t_,t_,t_,t_,t_,t_,t_,t_,t_,t_,t_,t_,t_,t_,t_,t_,f_,f_] rfl rfl (one_of HT_.out (by kernel_rfl)) (by decide) (fun K hK => ?_)
         refine goes_ Try.func113 (by kernel_rfl) rfl #[.pointer (some ⟨g, 0, none⟩)] (by rfl) rfl rfl (by (try simp only [List.map_toArray, List.map_cons, List.map_nil]); first | done | rfl) ?_
         refine (room_calls VH.out.dev VH.out.vlt).mono ?_
         rintro e wu ⟨rfl, hbu⟩
         refine ⟨_, rfl, ?_⟩
         rw [ZL.out]
         have UL := Aside0.mk (below_step VL.out hbu)
         have UG := blk_below YG.out UL.out
         clear hbu
         refine hK.out _ _ ⟨(blk_cell UG 4).trans rfl, (blk_cell UG 5).trans rfl⟩ (fun hHeld => ?_)
         clear hK K
         refine norm_ (a' := ?_) ?_ ?_
         rotate_left
         ·show Act.put _ (some 130) _ = _
          simp only [Act.put, sA, sZ, sS, i64_w, i32_w]
          rfl
         clear UG
         refine pure_ (i := 22) (N := some 135) (v := ?_) (a' := ?_) #[t_,t_,t_,t_,t_,t_,t_,t_,t_,t_,t_,t_,t_,t_,t_,t_,t_,t_,t_,t_,t_,t_,t_,f_] rfl rfl (any_of HT_.out (by kernel_rfl)) (fun _ _ _ h => h) (Or.inl ⟨by rfl, ?_⟩) ?_ ?_
         rotate_left
         ·intro w'
          go_simp
          with_reducible rfl
         rotate_left
         ·simp only [Act.put, sA, sZ, sS, i64_w, i32_w]
          rfl
         refine pure_ (i := 23) (N := some 136) (v := ?_) (a' := ?_) #[t_,t_,t_,t_,t_,t_,t_,t_,t_,t_,t_,t_,t_,t_,t_,t_,t_,t_,t_,t_,t_,t_,t_,t_] rfl rfl (any_of HT_.out (by kernel_rfl)) (fun _ _ _ h => h) (Or.inl ⟨by rfl, ?_⟩) ?_ ?_
         rotate_left
         ·intro w'
          go_simp
          with_reducible rfl
         rotate_left
         ·simp only [Act.put, sA, sZ, sS, i64_w, i32_w]
          rfl
         refine done_ (done_of HT_.out (by kernel_rfl)) ?_
         have UH := Aside0.mk (YH.out.below UL.out)
         have UR := Aside0.mk (YR.out.below UL.out)
         have UB := Aside0.mk (below_step YB.out UL.out)
         go_wp2_with fail
         go_roundg k1
         case measure => omega
         case rel => exact ⟨i + 1, g, Sd5, S5, _, d5, v5, s, _, rfl, (by have h_ : wrap64 ((i : Int) + 1) = ((i + 1 : Nat) : Int) := (by have := hi2.out; unfold wrap64; omega); rw [h_]), ⟨by have := HK.out; omega⟩, UH, ZI, UR, ZL, ZS, UB⟩
      ·have e0 : (x.k == 0) = false := beq_eq_false_iff_ne.mpr (fun h => k0 (.inl h))
       have e1 : (x.k == 1) = false := beq_eq_false_iff_ne.mpr (fun h => k0 (.inr (.inl h)))
       have e2 : (x.k == 2) = false := beq_eq_false_iff_ne.mpr (fun h => k0 (.inr (.inr h)))
       clear k0
       by_cases k3 : x.k = 3
       ·rw [k3] at hc0
        clear e0 e1 e2 k3
        go_wp2_with fail
        refine (sync_calls HH4.out.dev HH4.out.vlt HH4.out.apart).mono ?_
        rintro e w5 ⟨rfl, hd5, hv5, hw5⟩
        have HR5 := Aside0.mk (HR4.out.went hw5 (O' := fun k => S k ∨ Sd k) (fun k hk => .inl hk))
        have HB5 := Aside0.mk (HB4.out.trans (hw5.to_below HB4.out.size HS.out))
        have hI5 := HI.out.sync
        clear hw5 hc0 hc1 hc2 hc3
        obtain ⟨vr, vl, arm, hg1, hg2, hg4, hg3, hg5⟩ := HR5.out.at_
        obtain ⟨Ar, cr, hvr⟩ := Kd.R_slice hg2
        subst hvr
        obtain ⟨Al, cl, hvl⟩ := Kd.V_slice hg4
        subst hvl
        have hr0 : w5.cell? ⟨gr, 0, none⟩ = some (.string (strOfNums d.b)) := (blk_cell hg1 0).trans rfl
        have hr1 : w5.cell? ⟨gr, 1, none⟩ = some (.slice Ar (wS d.ws).length cr) := (blk_cell hg1 1).trans rfl
        have hr2 : w5.cell? ⟨gr, 2, none⟩ = some (.bool d.dead) := (blk_cell hg1 2).trans rfl
        have hr3 : w5.cell? ⟨gr, 3, none⟩ = some (.int .i64 arm) := (blk_cell hg1 3).trans rfl
        have hr4 : w5.cell? ⟨gr, 4, none⟩ = some (.slice Al v.l.length cl) := (blk_cell hg1 4).trans rfl
        have hr5 : w5.cell? ⟨gr, 5, none⟩ = some (.int .i64 v.en) := (blk_cell hg1 5).trans rfl
        have hr6 : w5.cell? ⟨gr, 6, none⟩ = some (.bool v.dead) := (blk_cell hg1 6).trans rfl
        have BRR := Aside0.mk hg1
        have HG2 := Aside0.mk hg2
        have HG3 := Aside0.mk hg3
        have HG4 := Aside0.mk hg4
        have HG5 := Aside0.mk hg5
        clear hg1 hg2 hg3 hg4 hg5
        by_cases cv : v.dead = true
        ·rw [cv] at hr6
         rw [if_pos cv] at hd5 hv5
         rw [if_pos cv]
         have ZH := Aside0.mk (show Both Sd S w5 gd g d v from ⟨hd5, hv5, HH4.out.apart⟩)
         have ZI := HI
         have ZR := Aside0.mk HR5.out.more
         have ZB := HB5
         have ZL := HL
         have ZS := HS
         clear hd5 hv5 hI5 cv hr0 hr1 hr2 hr3 hr4 hr5 BRR HG2 HG3 HG4 HG5 HR5 HB5
         obtain ⟨vr, vl, arm, hg1, hg2, hg4, hg3, hg5⟩ := ZR.out.at_
         obtain ⟨Al, cl, hvl⟩ := Kd.V_slice hg4
         subst hvl
         have hy4 : w5.cell? ⟨gr, 4, none⟩ = some (.slice Al v.l.length cl) := (blk_cell hg1 4).trans rfl
         have hy5 : w5.cell? ⟨gr, 5, none⟩ = some (.int .i64 v.en) := (blk_cell hg1 5).trans rfl
         have HV := Aside0.mk hg4
         have BG := Aside0.mk hg1
         have hct := ZI.out.count
         have HVD := Aside0.mk (show Datas v.l by rw [ZI.out.vl]; exact datas_append ZI.out.ds ZI.out.dt)
         have HVR := Aside0.mk (show Rights v.l by rw [ZI.out.vl]; exact rights_append ZI.out.rs ZI.out.rt)
         have HVN := Aside0.mk (show v.l.length ≤ 20000 by rw [ZI.out.vl, List.length_append]; exact hct)
         clear hg1 hg2 hg3 hg4 hg5 hct
         go_wp2_with fail
         refine start_ (n := 24) (S := fun w' => w'.cell? ⟨gr, 4, none⟩ = some (.slice Al v.l.length cl) ∧ w'.cell? ⟨gr, 5, none⟩ = some (.int .i64 v.en)) (ds := []) #[f_,f_,f_,f_,f_,f_,f_,f_,f_,f_,f_,f_,f_,f_,f_,f_,f_,f_,f_,f_,f_,f_,f_,f_] (by kernel_rfl) rfl rfl ⟨hy4, hy5⟩ (fun hHeld => ?_); refine with_tabW pl35.tab pl35.bits (fun HT_ HW_ => ?_)
         have YH := Aside0.mk (ZH.out.below (below_drew (Below.refl _ _))); have YR := Aside0.mk (ZR.out.below (below_drew (Below.refl _ _))); have YB := Aside0.mk (below_drew1 ZB.out); have YV := Aside0.mk (Kd.V_drew HV.out); have YG := Aside0.mk (blk_drew BG.out); clear ZH ZR ZB HV BG hy4 hy5; generalize w5.drew = wy at YH YR YB YV YG hHeld ⊢
         refine pure_ (i := 0) (N := some 113) (v := ?_) (a' := ?_) #[t_,f_,f_,f_,f_,f_,f_,f_,f_,f_,f_,f_,f_,f_,f_,f_,f_,f_,f_,f_,f_,f_,f_,f_] rfl rfl (any_of HT_.out (by kernel_rfl)) (fun _ _ _ h => h) (Or.inl ⟨by rfl, ?_⟩) ?_ ?_
         rotate_left
         ·intro w'
          go_simp
          with_reducible rfl
         rotate_left
         ·simp only [Act.put, sA, sZ, sS, i64_w, i32_w]
          rfl
         refine pure_ (i := 1) (N := some 114) (v := ?_) (a' := ?_) #[t_,t_,f_,f_,f_,f_,f_,f_,f_,f_,f_,f_,f_,f_,f_,f_,f_,f_,f_,f_,f_,f_,f_,f_] rfl rfl (any_of HT_.out (by kernel_rfl)) (fun _ _ _ h => h) (Or.inl ⟨by rfl, ?_⟩) ?_ ?_
         rotate_left
         ·intro w'
          go_simp
          with_reducible rfl
         rotate_left
         ·simp only [Act.put, sA, sZ, sS, i64_w, i32_w]
          rfl
         refine pure_ (i := 2) (N := some 115) (v := ?_) (a' := ?_) #[t_,t_,t_,f_,f_,f_,f_,f_,f_,f_,f_,f_,f_,f_,f_,f_,f_,f_,f_,f_,f_,f_,f_,f_] rfl rfl (any_of HT_.out (by kernel_rfl)) (fun _ _ _ h => h) (Or.inl ⟨by rfl, ?_⟩) ?_ ?_
         rotate_left
         ·intro w'
          go_simp
          with_reducible rfl
         rotate_left
         ·simp only [Act.put, sA, sZ, sS, i64_w, i32_w]
          rfl
         refine pure_ (i := 3) (N := some 116) (v := ?_) (a' := ?_) #[t_,t_,t_,t_,f_,f_,f_,f_,f_,f_,f_,f_,f_,f_,f_,f_,f_,f_,f_,f_,f_,f_,f_,f_] rfl rfl (any_of HT_.out (by kernel_rfl)) (fun _ _ _ h => h) (Or.inl ⟨by rfl, ?_⟩) ?_ ?_
         rotate_left
         ·intro w'
          go_simp
          with_reducible rfl
         rotate_left
         ·simp only [Act.put, sA, sZ, sS, i64_w, i32_w]
          rfl
         refine pure_ (i := 4) (N := some 117) (v := ?_) (a' := ?_) #[t_,t_,t_,t_,t_,f_,f_,f_,f_,f_,f_,f_,f_,f_,f_,f_,f_,f_,f_,f_,f_,f_,f_,f_] rfl rfl (any_of HT_.out (by kernel_rfl)) (fun _ _ _ h => h) (Or.inl ⟨by rfl, ?_⟩) ?_ ?_
         rotate_left
         ·intro w'
          go_simp
          with_reducible rfl
         rotate_left
         ·simp only [Act.put, sA, sZ, sS, i64_w, i32_w]
          rfl
         refine pure_ (i := 5) (N := some 118) (v := ?_) (a' := ?_) #[t_,t_,t_,t_,t_,t_,f_,f_,f_,f_,f_,f_,f_,f_,f_,f_,f_,f_,f_,f_,f_,f_,f_,f_] rfl rfl (any_of HT_.out (by kernel_rfl)) (fun _ _ _ h => h) (Or.inl ⟨by rfl, ?_⟩) ?_ ?_
         rotate_left
         ·intro w'
          go_simp
          with_reducible rfl
         rotate_left
         ·simp only [Act.put, sA, sZ, sS, i64_w, i32_w]
          rfl
         refine pure_ (i := 6) (N := some 119) (v := ?_) (a' := ?_) #[t_,t_,t_,t_,t_,t_,t_,f_,f_,f_,f_,f_,f_,f_,f_,f_,f_,f_,f_,f_,f_,f_,f_,f_] rfl rfl (any_of HT_.out (by kernel_rfl)) (fun _ _ _ h => h) (Or.inl ⟨by rfl, ?_⟩) ?_ ?_
         rotate_left
         ·intro w'
          go_simp
          with_reducible rfl
         rotate_left
         ·simp only [Act.put, sA, sZ, sS, i64_w, i32_w]
          rfl
         refine pure_ (i := 7) (N := some 120) (v := ?_) (a' := ?_) #[t_,t_,t_,t_,t_,t_,t_,t_,f_,f_,f_,f_,f_,f_,f_,f_,f_,f_,f_,f_,f_,f_,f_,f_] rfl rfl (any_of HT_.out (by kernel_rfl)) (fun _ _ _ h => h) (Or.inl ⟨by rfl, ?_⟩) ?_ ?_
         rotate_left
         ·intro w'
          go_simp
          with_reducible rfl
         rotate_left
         ·simp only [Act.put, sA, sZ, sS, i64_w, i32_w]
          rfl
         refine pure_ (i := 8) (N := some 121) (v := ?_) (a' := ?_) #[t_,t_,t_,t_,t_,t_,t_,t_,t_,f_,f_,f_,f_,f_,f_,f_,f_,f_,f_,f_,f_,f_,f_,f_] rfl rfl (any_of HT_.out (by kernel_rfl)) (fun _ _ _ h => h) (Or.inl ⟨by rfl, ?_⟩) ?_ ?_
         rotate_left
         ·intro w'
          go_simp
          with_reducible rfl
         rotate_left
         ·simp only [Act.put, sA, sZ, sS, i64_w, i32_w]
          rfl
         refine pure_ (i := 10) (N := some 123) (v := ?_) (a' := ?_) #[t_,t_,t_,t_,t_,t_,t_,t_,t_,f_,t_,f_,f_,f_,f_,f_,f_,f_,f_,f_,f_,f_,f_,f_] rfl rfl (any_of HT_.out (by kernel_rfl)) (fun _ _ _ h => h) (Or.inl ⟨by rfl, ?_⟩) ?_ ?_
         rotate_left
         ·intro w'
          go_simp
          with_reducible rfl
         rotate_left
         ·simp only [Act.put, sA, sZ, sS, i64_w, i32_w]
          rfl
         refine take_ (i := 11) (N := some 124) (v := ?_) (a' := ?_) #[t_,t_,t_,t_,t_,t_,t_,t_,t_,f_,t_,t_,f_,f_,f_,f_,f_,f_,f_,f_,f_,f_,f_,f_] rfl rfl (take_ofW HT_.out HW_.out (by kernel_rfl)) (fun _ _ _ h => h) (Or.inl ⟨by rfl, ?_⟩) hHeld ?_ ?_
         rotate_left
         ·rintro w' ⟨s0, s1⟩
          go_simp
          with_reducible rfl
         rotate_left
         ·simp only [Act.put, sA, sZ, sS, i64_w, i32_w]
          rfl
         refine one_ (i := 9) (N := some 122) #[t_,t_,t_,t_,t_,t_,t_,t_,t_,t_,t_,t_,f_,f_,f_,f_,f_,f_,f_,f_,f_,f_,f_,f_] rfl rfl (one_of HT_.out (by kernel_rfl)) (by decide) (fun K hK => ?_)
         refine goes_ Try.func67 (by kernel_rfl) rfl #[.pointer (some ⟨g, 0, none⟩)] (by rfl) rfl rfl (by (try simp only [List.map_toArray, List.map_cons, List.map_nil]); first | done | rfl) ?_
         refine (entries_calls YH.out.vlt (by have := HVN.out; omega) (fun y hy => (HVR.out y hy).2.2)).mono ?_
         rintro e wx ⟨ux, rfl, hux, hbx⟩
         refine ⟨_, rfl, ?_⟩
         obtain ⟨Ax, cx, hux'⟩ := Kd.S_slice hux
         subst hux'
         have XU := Aside0.mk hux
         have XL := Aside0.mk hbx
         have XG := blk_below YG.out hbx
         clear hux hbx
         refine hK.out _ _ ⟨(blk_cell XG 4).trans rfl, (blk_cell XG 5).trans rfl⟩ (fun hHeld => ?_)
         clear hK K
         refine norm_ (a' := ?_) ?_ ?_
         rotate_left
         ·show Act.put _ (some 122) _ = _
          simp only [Act.put, sA, sZ, sS, i64_w, i32_w]
          rfl
         clear XG
         refine one_ (i := 12) (N := some 125) #[t_,t_,t_,t_,t_,t_,t_,t_,t_,t_,t_,t_,t_,f_,f_,f_,f_,f_,f_,f_,f_,f_,f_,f_] rfl rfl (one_of HT_.out (by kernel_rfl)) (by decide) (fun K hK => ?_)
         refine goes_ Try.func68 (by kernel_rfl) rfl #[.slice Ax v.l.length cx, .slice Al v.l.length cl] (by rfl) rfl rfl (by (try simp only [List.map_toArray, List.map_cons, List.map_nil]); first | done | rfl) ?_
         obtain ⟨ks, hks⟩ : ∃ ks, v.l.length + 2 ≤ ks := ⟨_, Nat.le_refl _⟩
         refine (horariumref47_Same.calls ks Ax cx v.l Al cl v.l true _ (Kd.S_reads' XU.out).2.2 (Kd.S_reads' XU.out).2.1 (Kd.V_reads' (Kd.V_below YV.out XL.out)).2.2 (Kd.V_reads' (Kd.V_below YV.out XL.out)).2.1 ((rsame_eq ks v.l v.l HVD.out HVD.out (by have := HVN.out; omega) hks).trans (congrArg some (decide_eq_true rfl)))).mono ?_
         rintro e wv ⟨rfl, hdv⟩
         refine ⟨_, rfl, ?_⟩
         have VL := Aside0.mk (below_step XL.out hdv.below)
         have VG := blk_below YG.out VL.out
         have VH := Aside0.mk (YH.out.below VL.out)
         clear hdv hks
         refine hK.out _ _ ⟨(blk_cell VG 4).trans rfl, (blk_cell VG 5).trans rfl⟩ (fun hHeld => ?_)
         clear hK K
         refine norm_ (a' := ?_) ?_ ?_
         rotate_left
         ·show Act.put _ (some 125) _ = _
          simp only [Act.put, sA, sZ, sS, i64_w, i32_w]
          rfl
         clear VG
         refine pure_ (i := 13) (N := some 126) (v := ?_) (a' := ?_) #[t_,t_,t_,t_,t_,t_,t_,t_,t_,t_,t_,t_,t_,t_,f_,f_,f_,f_,f_,f_,f_,f_,f_,f_] rfl rfl (any_of HT_.out (by kernel_rfl)) (fun _ _ _ h => h) (Or.inl ⟨by rfl, ?_⟩) ?_ ?_
         rotate_left
         ·intro w'
          go_simp
          with_reducible rfl
         rotate_left
         ·simp only [Act.put, sA, sZ, sS, i64_w, i32_w]
          rfl
         refine pure_ (i := 14) (N := some 127) (v := ?_) (a' := ?_) #[t_,t_,t_,t_,t_,t_,t_,t_,t_,t_,t_,t_,t_,t_,t_,f_,f_,f_,f_,f_,f_,f_,f_,f_] rfl rfl (any_of HT_.out (by kernel_rfl)) (fun _ _ _ h => h) (Or.inl ⟨by rfl, ?_⟩) ?_ ?_
         rotate_left
         ·intro w'
          go_simp
          with_reducible rfl
         rotate_left
         ·simp only [Act.put, sA, sZ, sS, i64_w, i32_w]
          rfl
         refine pure_ (i := 15) (N := some 128) (v := ?_) (a' := ?_) #[t_,t_,t_,t_,t_,t_,t_,t_,t_,t_,t_,t_,t_,t_,t_,t_,f_,f_,f_,f_,f_,f_,f_,f_] rfl rfl (any_of HT_.out (by kernel_rfl)) (fun _ _ _ h => h) (Or.inl ⟨by rfl, ?_⟩) ?_ ?_
         rotate_left
         ·intro w'
          go_simp
          with_reducible rfl
         rotate_left
         ·simp only [Act.put, sA, sZ, sS, i64_w, i32_w]
          rfl
         refine pure_ (i := 16) (N := some 129) (v := ?_) (a' := ?_) #[t_,t_,t_,t_,t_,t_,t_,t_,t_,t_,t_,t_,t_,t_,t_,t_,t_,f_,f_,f_,f_,f_,f_,f_] rfl rfl (any_of HT_.out (by kernel_rfl)) (fun _ _ _ h => h) (Or.inl ⟨by rfl, ?_⟩) ?_ ?_
         rotate_left
         ·intro w'
          go_simp
          with_reducible rfl
         rotate_left
         ·simp only [Act.put, sA, sZ, sS, i64_w, i32_w]
          rfl
         refine pure_ (i := 18) (N := some 131) (v := ?_) (a' := ?_) #[t_,t_,t_,t_,t_,t_,t_,t_,t_,t_,t_,t_,t_,t_,t_,t_,t_,f_,t_,f_,f_,f_,f_,f_] rfl rfl (any_of HT_.out (by kernel_rfl)) (fun _ _ _ h => h) (Or.inl ⟨by rfl, ?_⟩) ?_ ?_
         rotate_left
         ·intro w'
          go_simp
          with_reducible rfl
         rotate_left
         ·simp only [Act.put, sA, sZ, sS, i64_w, i32_w]
          rfl
         refine pure_ (i := 19) (N := some 132) (v := ?_) (a' := ?_) #[t_,t_,t_,t_,t_,t_,t_,t_,t_,t_,t_,t_,t_,t_,t_,t_,t_,f_,t_,t_,f_,f_,f_,f_] rfl rfl (any_of HT_.out (by kernel_rfl)) (fun _ _ _ h => h) (Or.inl ⟨by rfl, ?_⟩) ?_ ?_
         rotate_left
         ·intro w'
          go_simp
          with_reducible rfl
         rotate_left
         ·simp only [Act.put, sA, sZ, sS, i64_w, i32_w]
          rfl
         refine take_ (i := 20) (N := some 133) (v := ?_) (a' := ?_) #[t_,t_,t_,t_,t_,t_,t_,t_,t_,t_,t_,t_,t_,t_,t_,t_,t_,f_,t_,t_,t_,f_,f_,f_] rfl rfl (take_ofW HT_.out HW_.out (by kernel_rfl)) (fun _ _ _ h => h) (Or.inl ⟨by rfl, ?_⟩) hHeld ?_ ?_
         rotate_left
         ·rintro w' ⟨s0, s1⟩
          go_simp
          with_reducible rfl
         rotate_left
         ·simp only [Act.put, sA, sZ, sS, i64_w, i32_w]
          rfl
         refine pure_ (i := 21) (N := some 134) (v := ?_) (a' := ?_) #[t_,t_,t_,t_,t_,t_,t_,t_,t_,t_,t_,t_,t_,t_,t_,t_,t_,f_,t_,t_,t_,t_,f_,f_] rfl rfl (any_of HT_.out (by kernel_rfl)) (fun _ _ _ h => h) (Or.inl ⟨by rfl, ?_⟩) ?_ ?_
         rotate_left
         ·intro w'
          go_simp
          with_reducible rfl
         rotate_left
         ·simp only [Act.put, sA, sZ, sS, i64_w, i32_w]
          rfl
         refine one_ (i := 17) (N := some 130) #[t_,t_,t_,t_,t_,t_,t_,t_,t_,t_,t_,t_,t_,t_,t_,t_,t_,t_,t_,t_,t_,t_,f_,f_] rfl rfl (one_of HT_.out (by kernel_rfl)) (by decide) (fun K hK => ?_)
         refine goes_ Try.func113 (by kernel_rfl) rfl #[.pointer (some ⟨g, 0, none⟩)] (by rfl) rfl rfl (by (try simp only [List.map_toArray, List.map_cons, List.map_nil]); first | done | rfl) ?_
         refine (room_calls VH.out.dev VH.out.vlt).mono ?_
         rintro e wu ⟨rfl, hbu⟩
         refine ⟨_, rfl, ?_⟩
         rw [ZL.out]
         have UL := Aside0.mk (below_step VL.out hbu)
         have UG := blk_below YG.out UL.out
         clear hbu
         refine hK.out _ _ ⟨(blk_cell UG 4).trans rfl, (blk_cell UG 5).trans rfl⟩ (fun hHeld => ?_)
         clear hK K
         refine norm_ (a' := ?_) ?_ ?_
         rotate_left
         ·show Act.put _ (some 130) _ = _
          simp only [Act.put, sA, sZ, sS, i64_w, i32_w]
          rfl
         clear UG
         refine pure_ (i := 22) (N := some 135) (v := ?_) (a' := ?_) #[t_,t_,t_,t_,t_,t_,t_,t_,t_,t_,t_,t_,t_,t_,t_,t_,t_,t_,t_,t_,t_,t_,t_,f_] rfl rfl (any_of HT_.out (by kernel_rfl)) (fun _ _ _ h => h) (Or.inl ⟨by rfl, ?_⟩) ?_ ?_
         rotate_left
         ·intro w'
          go_simp
          with_reducible rfl
         rotate_left
         ·simp only [Act.put, sA, sZ, sS, i64_w, i32_w]
          rfl
         refine pure_ (i := 23) (N := some 136) (v := ?_) (a' := ?_) #[t_,t_,t_,t_,t_,t_,t_,t_,t_,t_,t_,t_,t_,t_,t_,t_,t_,t_,t_,t_,t_,t_,t_,t_] rfl rfl (any_of HT_.out (by kernel_rfl)) (fun _ _ _ h => h) (Or.inl ⟨by rfl, ?_⟩) ?_ ?_
         rotate_left
         ·intro w'
          go_simp
          with_reducible rfl
         rotate_left
         ·simp only [Act.put, sA, sZ, sS, i64_w, i32_w]
          rfl
         refine done_ (done_of HT_.out (by kernel_rfl)) ?_
         have UH := Aside0.mk (YH.out.below UL.out)
         have UR := Aside0.mk (YR.out.below UL.out)
         have UB := Aside0.mk (below_step YB.out UL.out)
         go_wp2_with fail
         go_roundg k1
         case measure => omega
         case rel => exact ⟨i + 1, g, Sd, S, PL, d, v, s, t, rfl, (by have h_ : wrap64 ((i : Int) + 1) = ((i + 1 : Nat) : Int) := (by have := hi2.out; unfold wrap64; omega); rw [h_]), ⟨by have := HK.out; omega⟩, UH, ZI, UR, ZL, ZS, UB⟩
        ·have cvf : v.dead = false := Bool.eq_false_iff.2 cv
         rw [cvf] at hr6
         simp only [if_neg cv] at hI5
         rw [if_neg cv] at hd5 hv5
         rw [if_neg cv]
         obtain ⟨kf, hkf⟩ : ∃ kf, 1000001 ≤ kf := ⟨_, Nat.le_refl _⟩
         obtain ⟨arm', hwr, ha⟩ := rsync_eq (v := v) HG3.out hn1000.out HH4.out.dev.small hws.out HH4.out.dev.fits cvf kf hkf
         have hfb := flushD_b d HH4.out.dev.fits
         obtain ⟨d5, hdq⟩ : ∃ d5, d5 = (flushD d).1 := ⟨_, rfl⟩
         obtain ⟨q5, hqq⟩ : ∃ q5, q5 = (flushD d).2 := ⟨_, rfl⟩
         rw [← hqq] at hI5 hv5 hwr
         obtain ⟨v5, hvq⟩ : ∃ v5, v5 = doneV v q5 := ⟨_, rfl⟩
         rw [← hdq] at hI5 hd5 hwr ha hfb
         rw [← hvq] at hI5 hv5 hwr
         rw [← hqq]
         have H5 := Aside0.mk (show Both Sd S w5 gd g d5 v5 from ⟨hd5, hv5, HH4.out.apart⟩)
         have ZI := Aside0.mk hI5
         have ZL := Aside0.mk (show d5.b.length = n by rw [hfb]; exact HL.out)
         have ZS := HS
         have HWR := Aside0.mk hwr
         have HA6 := Aside0.mk ha
         have HCV := Aside0.mk cvf
         clear hwr ha hkf cv cvf hI5 hd5 hv5 hdq hqq hvq hfb
         go_wp2_with fail
         refine (horariumref48_Sync.calls kf (strOfNums d.b) (fun k => some k = (Value.slice Ar (wS d.ws).length cr).ownBlock) (.slice Ar (wS d.ws).length cr) (wS d.ws) d.dead arm PL Al cl v.l v.en false _ _ _ _ _ _ _ _ w w5 HB5.out HG2.out HG4.out (by rw [← HCV.out]; exact HWR.out)).mono ?_
         rintro e w6 ⟨v6, vl6, rfl, hr6_, hv6_, hb6, hk6⟩
         obtain ⟨A6, c6, hv6⟩ := Kd.R_slice hr6_
         subst hv6
         obtain ⟨L6, k6, hl6⟩ := Kd.V_slice hv6_
         subst hl6
         have HR6 := Aside0.mk hr6_
         have HV6 := Aside0.mk hv6_
         have HB6 := Aside0.mk hb6
         have HK6 := Aside0.mk hk6
         have BR6 := Aside0.mk (blk_kept BRR.out HK6.out (fun e => (HG5.out gr e.symm).2 rfl))
         have HPL := Aside0.mk (show ∀ k, ((some k = (Value.slice Ar (wS d.ws).length cr).ownBlock ∨ PL k) ∨ w5.heap.size ≤ k) → (¬ (S k ∨ Sd k) ∧ k ≠ gr) ∨ w5.heap.size ≤ k from fun k hk => hk.elim (fun h => .inl (h.elim (fun e => HG5.out k e.symm) (HR5.out.off k))) .inr)
         clear hr6_ hv6_ hb6 hk6 hr0 hr1 hr2 hr3 hr4 hr5 hr6
         have HO5 := Aside0.mk H5.out.lt
         have HGO := Aside0.mk HR5.out.goff
         have HGL := Aside0.mk HR5.out.glt
         have hy0 : w6.cell? ⟨gr, 0, none⟩ = some (.string (strOfNums d.b)) := (blk_cell BR6.out 0).trans rfl
         have hz0 := blk_frozen BR6.out 0
         have hy1 : w6.cell? ⟨gr, 1, none⟩ = some (.slice Ar (wS d.ws).length cr) := (blk_cell BR6.out 1).trans rfl
         have hz1 := blk_frozen BR6.out 1
         have hy2 : w6.cell? ⟨gr, 2, none⟩ = some (.bool d.dead) := (blk_cell BR6.out 2).trans rfl
         have hz2 := blk_frozen BR6.out 2
         have hy3 : w6.cell? ⟨gr, 3, none⟩ = some (.int .i64 arm) := (blk_cell BR6.out 3).trans rfl
         have hz3 := blk_frozen BR6.out 3
         have hy4 : w6.cell? ⟨gr, 4, none⟩ = some (.slice Al v.l.length cl) := (blk_cell BR6.out 4).trans rfl
         have hz4 := blk_frozen BR6.out 4
         have hy5 : w6.cell? ⟨gr, 5, none⟩ = some (.int .i64 v.en) := (blk_cell BR6.out 5).trans rfl
         have hz5 := blk_frozen BR6.out 5
         have hy6 : w6.cell? ⟨gr, 6, none⟩ = some (.bool v.dead) := (blk_cell BR6.out 6).trans rfl
         have hz6 := blk_frozen BR6.out 6
         go_wp2_with ((with_reducible refine gate_store (t := 140) (p := 8) rfl ?_); refine store_event (t := 140) (p := 8) (v := .tmp 82) (w1 := (((((((w6.setCell ⟨gr, 0, none⟩ (.string (strOfNums d5.b))).setCell ⟨gr, 1, none⟩ (.slice A6 (wS d5.ws).length c6)).setCell ⟨gr, 2, none⟩ (.bool d5.dead)).setCell ⟨gr, 3, none⟩ (.int .i64 arm')).setCell ⟨gr, 4, none⟩ (.slice L6 v5.l.length k6)).setCell ⟨gr, 5, none⟩ (.int .i64 v5.en)).setCell ⟨gr, 6, none⟩ (.bool v5.dead))) ?hg ?ho ?hn ?hr ?_; (case ho => rfl); (case hg => rfl); (case hn => rfl); (case hr => first | (go_simp; done) | (go_simp; rfl)); intro w7 hw3; have hg7 : w7.heap[gr]? = some (.cells #[.string (strOfNums d5.b), .slice A6 (wS d5.ws).length c6, .bool d5.dead, .int .i64 arm', .slice L6 v5.l.length k6, .int .i64 v5.en, .bool v5.dead] 140 (0, 0)) := (by rw [hw3]; exact (blk_put (blk_put (blk_put (blk_put (blk_put (blk_put (blk_put BR6.out 0 _ rfl) 1 _ rfl) 2 _ rfl) 3 _ rfl) 4 _ rfl) 5 _ rfl) 6 _ rfl)); have hk7 : Kept w6 w7 (fun k => k = gr) := (by rw [hw3]; exact ((((((((Kept.refl w6 (fun k => k = gr)).setCell (.inl rfl) _).setCell (.inl rfl) _).setCell (.inl rfl) _).setCell (.inl rfl) _).setCell (.inl rfl) _).setCell (.inl rfl) _).setCell (.inl rfl) _)); have hs7 : w7.heap.size = w6.heap.size := (by rw [hw3]; simp only [size_set]); have hz_ := refv_put (O := (fun k => S k ∨ Sd k)) (PL1 := (fun k => (some k = (Value.slice Ar (wS d.ws).length cr).ownBlock ∨ PL k) ∨ w5.heap.size ≤ k)) HG5.out HO5.out HGO.out HGL.out HK6.out HR6.out HV6.out HPL.out HA6.out hg7 hk7 hs7; have ZR := Aside0.mk hz_.1; have ZK := Aside0.mk hz_.2; have ZB := Aside0.mk (show Below w.heap.size w w7 by rw [hw3]; exact (((((((HB6.out.setCell (p := ⟨gr, 0, none⟩) HGE.out _).setCell (p := ⟨gr, 1, none⟩) HGE.out _).setCell (p := ⟨gr, 2, none⟩) HGE.out _).setCell (p := ⟨gr, 3, none⟩) HGE.out _).setCell (p := ⟨gr, 4, none⟩) HGE.out _).setCell (p := ⟨gr, 5, none⟩) HGE.out _).setCell (p := ⟨gr, 6, none⟩) HGE.out _)); clear hw3 hg7 hk7 hs7 hz_ hy0 hz0 hy1 hz1 hy2 hz2 hy3 hz3 hy4 hz4 hy5 hz5 hy6 hz6)
         have ZH := Aside0.mk (H5.out.kept ZK.out (fun k hk e => e.elim (fun e => (HG5.out k e.symm).1 hk) (fun e => HGO.out (e ▸ hk))))
         clear HG2 HG3 HG4 HWR HA6 HR6 HV6 HK6 BR6 BRR HR5 H5 HB5 HB6
         obtain ⟨vr, vl, arm, hg1, hg2, hg4, hg3, hg5⟩ := ZR.out.at_
         obtain ⟨Al, cl, hvl⟩ := Kd.V_slice hg4
         subst hvl
         have hy4 : w7.cell? ⟨gr, 4, none⟩ = some (.slice Al v5.l.length cl) := (blk_cell hg1 4).trans rfl
         have hy5 : w7.cell? ⟨gr, 5, none⟩ = some (.int .i64 v5.en) := (blk_cell hg1 5).trans rfl
         have HV := Aside0.mk hg4
         have BG := Aside0.mk hg1
         have hct := ZI.out.count
         have HVD := Aside0.mk (show Datas v5.l by rw [ZI.out.vl]; exact datas_append ZI.out.ds ZI.out.dt)
         have HVR := Aside0.mk (show Rights v5.l by rw [ZI.out.vl]; exact rights_append ZI.out.rs ZI.out.rt)
         have HVN := Aside0.mk (show v5.l.length ≤ 20000 by rw [ZI.out.vl, List.length_append]; exact hct)
         clear hg1 hg2 hg3 hg4 hg5 hct
         go_wp2_with fail
         refine start_ (n := 24) (S := fun w' => w'.cell? ⟨gr, 4, none⟩ = some (.slice Al v5.l.length cl) ∧ w'.cell? ⟨gr, 5, none⟩ = some (.int .i64 v5.en)) (ds := []) #[f_,f_,f_,f_,f_,f_,f_,f_,f_,f_,f_,f_,f_,f_,f_,f_,f_,f_,f_,f_,f_,f_,f_,f_] (by kernel_rfl) rfl rfl ⟨hy4, hy5⟩ (fun hHeld => ?_); refine with_tabW pl35.tab pl35.bits (fun HT_ HW_ => ?_)
         have YH := Aside0.mk (ZH.out.below (below_drew (Below.refl _ _))); have YR := Aside0.mk (ZR.out.below (below_drew (Below.refl _ _))); have YB := Aside0.mk (below_drew1 ZB.out); have YV := Aside0.mk (Kd.V_drew HV.out); have YG := Aside0.mk (blk_drew BG.out); clear ZH ZR ZB HV BG hy4 hy5; generalize w7.drew = wy at YH YR YB YV YG hHeld ⊢
         refine pure_ (i := 0) (N := some 113) (v := ?_) (a' := ?_) #[t_,f_,f_,f_,f_,f_,f_,f_,f_,f_,f_,f_,f_,f_,f_,f_,f_,f_,f_,f_,f_,f_,f_,f_] rfl rfl (any_of HT_.out (by kernel_rfl)) (fun _ _ _ h => h) (Or.inl ⟨by rfl, ?_⟩) ?_ ?_
         rotate_left
         ·intro w'
          go_simp
          with_reducible rfl
         rotate_left
         ·simp only [Act.put, sA, sZ, sS, i64_w, i32_w]
          rfl
         refine pure_ (i := 1) (N := some 114) (v := ?_) (a' := ?_) #[t_,t_,f_,f_,f_,f_,f_,f_,f_,f_,f_,f_,f_,f_,f_,f_,f_,f_,f_,f_,f_,f_,f_,f_] rfl rfl (any_of HT_.out (by kernel_rfl)) (fun _ _ _ h => h) (Or.inl ⟨by rfl, ?_⟩) ?_ ?_
         rotate_left
         ·intro w'
          go_simp
          with_reducible rfl
         rotate_left
         ·simp only [Act.put, sA, sZ, sS, i64_w, i32_w]
          rfl
         refine pure_ (i := 2) (N := some 115) (v := ?_) (a' := ?_) #[t_,t_,t_,f_,f_,f_,f_,f_,f_,f_,f_,f_,f_,f_,f_,f_,f_,f_,f_,f_,f_,f_,f_,f_] rfl rfl (any_of HT_.out (by kernel_rfl)) (fun _ _ _ h => h) (Or.inl ⟨by rfl, ?_⟩) ?_ ?_
         rotate_left
         ·intro w'
          go_simp
          with_reducible rfl
         rotate_left
         ·simp only [Act.put, sA, sZ, sS, i64_w, i32_w]
          rfl
         refine pure_ (i := 3) (N := some 116) (v := ?_) (a' := ?_) #[t_,t_,t_,t_,f_,f_,f_,f_,f_,f_,f_,f_,f_,f_,f_,f_,f_,f_,f_,f_,f_,f_,f_,f_] rfl rfl (any_of HT_.out (by kernel_rfl)) (fun _ _ _ h => h) (Or.inl ⟨by rfl, ?_⟩) ?_ ?_
         rotate_left
         ·intro w'
          go_simp
          with_reducible rfl
         rotate_left
         ·simp only [Act.put, sA, sZ, sS, i64_w, i32_w]
          rfl
         refine pure_ (i := 4) (N := some 117) (v := ?_) (a' := ?_) #[t_,t_,t_,t_,t_,f_,f_,f_,f_,f_,f_,f_,f_,f_,f_,f_,f_,f_,f_,f_,f_,f_,f_,f_] rfl rfl (any_of HT_.out (by kernel_rfl)) (fun _ _ _ h => h) (Or.inl ⟨by rfl, ?_⟩) ?_ ?_
         rotate_left
         ·intro w'
          go_simp
          with_reducible rfl
         rotate_left
         ·simp only [Act.put, sA, sZ, sS, i64_w, i32_w]
          rfl
         refine pure_ (i := 5) (N := some 118) (v := ?_) (a' := ?_) #[t_,t_,t_,t_,t_,t_,f_,f_,f_,f_,f_,f_,f_,f_,f_,f_,f_,f_,f_,f_,f_,f_,f_,f_] rfl rfl (any_of HT_.out (by kernel_rfl)) (fun _ _ _ h => h) (Or.inl ⟨by rfl, ?_⟩) ?_ ?_
         rotate_left
         ·intro w'
          go_simp
          with_reducible rfl
         rotate_left
         ·simp only [Act.put, sA, sZ, sS, i64_w, i32_w]
          rfl
         refine pure_ (i := 6) (N := some 119) (v := ?_) (a' := ?_) #[t_,t_,t_,t_,t_,t_,t_,f_,f_,f_,f_,f_,f_,f_,f_,f_,f_,f_,f_,f_,f_,f_,f_,f_] rfl rfl (any_of HT_.out (by kernel_rfl)) (fun _ _ _ h => h) (Or.inl ⟨by rfl, ?_⟩) ?_ ?_
         rotate_left
         ·intro w'
          go_simp
          with_reducible rfl
         rotate_left
         ·simp only [Act.put, sA, sZ, sS, i64_w, i32_w]
          rfl
         refine pure_ (i := 7) (N := some 120) (v := ?_) (a' := ?_) #[t_,t_,t_,t_,t_,t_,t_,t_,f_,f_,f_,f_,f_,f_,f_,f_,f_,f_,f_,f_,f_,f_,f_,f_] rfl rfl (any_of HT_.out (by kernel_rfl)) (fun _ _ _ h => h) (Or.inl ⟨by rfl, ?_⟩) ?_ ?_
         rotate_left
         ·intro w'
          go_simp
          with_reducible rfl
         rotate_left
         ·simp only [Act.put, sA, sZ, sS, i64_w, i32_w]
          rfl
         refine pure_ (i := 8) (N := some 121) (v := ?_) (a' := ?_) #[t_,t_,t_,t_,t_,t_,t_,t_,t_,f_,f_,f_,f_,f_,f_,f_,f_,f_,f_,f_,f_,f_,f_,f_] rfl rfl (any_of HT_.out (by kernel_rfl)) (fun _ _ _ h => h) (Or.inl ⟨by rfl, ?_⟩) ?_ ?_
         rotate_left
         ·intro w'
          go_simp
          with_reducible rfl
         rotate_left
         ·simp only [Act.put, sA, sZ, sS, i64_w, i32_w]
          rfl
         refine pure_ (i := 10) (N := some 123) (v := ?_) (a' := ?_) #[t_,t_,t_,t_,t_,t_,t_,t_,t_,f_,t_,f_,f_,f_,f_,f_,f_,f_,f_,f_,f_,f_,f_,f_] rfl rfl (any_of HT_.out (by kernel_rfl)) (fun _ _ _ h => h) (Or.inl ⟨by rfl, ?_⟩) ?_ ?_
         rotate_left
         ·intro w'
          go_simp
          with_reducible rfl
         rotate_left
         ·simp only [Act.put, sA, sZ, sS, i64_w, i32_w]
          rfl
         refine take_ (i := 11) (N := some 124) (v := ?_) (a' := ?_) #[t_,t_,t_,t_,t_,t_,t_,t_,t_,f_,t_,t_,f_,f_,f_,f_,f_,f_,f_,f_,f_,f_,f_,f_] rfl rfl (take_ofW HT_.out HW_.out (by kernel_rfl)) (fun _ _ _ h => h) (Or.inl ⟨by rfl, ?_⟩) hHeld ?_ ?_
         rotate_left
         ·rintro w' ⟨s0, s1⟩
          go_simp
          with_reducible rfl
         rotate_left
         ·simp only [Act.put, sA, sZ, sS, i64_w, i32_w]
          rfl
         refine one_ (i := 9) (N := some 122) #[t_,t_,t_,t_,t_,t_,t_,t_,t_,t_,t_,t_,f_,f_,f_,f_,f_,f_,f_,f_,f_,f_,f_,f_] rfl rfl (one_of HT_.out (by kernel_rfl)) (by decide) (fun K hK => ?_)
         refine goes_ Try.func67 (by kernel_rfl) rfl #[.pointer (some ⟨g, 0, none⟩)] (by rfl) rfl rfl (by (try simp only [List.map_toArray, List.map_cons, List.map_nil]); first | done | rfl) ?_
         refine (entries_calls YH.out.vlt (by have := HVN.out; omega) (fun y hy => (HVR.out y hy).2.2)).mono ?_
         rintro e wx ⟨ux, rfl, hux, hbx⟩
         refine ⟨_, rfl, ?_⟩
         obtain ⟨Ax, cx, hux'⟩ := Kd.S_slice hux
         subst hux'
         have XU := Aside0.mk hux
         have XL := Aside0.mk hbx
         have XG := blk_below YG.out hbx
         clear hux hbx
         refine hK.out _ _ ⟨(blk_cell XG 4).trans rfl, (blk_cell XG 5).trans rfl⟩ (fun hHeld => ?_)
         clear hK K
         refine norm_ (a' := ?_) ?_ ?_
         rotate_left
         ·show Act.put _ (some 122) _ = _
          simp only [Act.put, sA, sZ, sS, i64_w, i32_w]
          rfl
         clear XG
         refine one_ (i := 12) (N := some 125) #[t_,t_,t_,t_,t_,t_,t_,t_,t_,t_,t_,t_,t_,f_,f_,f_,f_,f_,f_,f_,f_,f_,f_,f_] rfl rfl (one_of HT_.out (by kernel_rfl)) (by decide) (fun K hK => ?_)
         refine goes_ Try.func68 (by kernel_rfl) rfl #[.slice Ax v5.l.length cx, .slice Al v5.l.length cl] (by rfl) rfl rfl (by (try simp only [List.map_toArray, List.map_cons, List.map_nil]); first | done | rfl) ?_
         obtain ⟨ks, hks⟩ : ∃ ks, v5.l.length + 2 ≤ ks := ⟨_, Nat.le_refl _⟩
         refine (horariumref47_Same.calls ks Ax cx v5.l Al cl v5.l true _ (Kd.S_reads' XU.out).2.2 (Kd.S_reads' XU.out).2.1 (Kd.V_reads' (Kd.V_below YV.out XL.out)).2.2 (Kd.V_reads' (Kd.V_below YV.out XL.out)).2.1 ((rsame_eq ks v5.l v5.l HVD.out HVD.out (by have := HVN.out; omega) hks).trans (congrArg some (decide_eq_true rfl)))).mono ?_
         rintro e wv ⟨rfl, hdv⟩
         refine ⟨_, rfl, ?_⟩
         have VL := Aside0.mk (below_step XL.out hdv.below)
         have VG := blk_below YG.out VL.out
         have VH := Aside0.mk (YH.out.below VL.out)
         clear hdv hks
         refine hK.out _ _ ⟨(blk_cell VG 4).trans rfl, (blk_cell VG 5).trans rfl⟩ (fun hHeld => ?_)
         clear hK K
         refine norm_ (a' := ?_) ?_ ?_
         rotate_left
         ·show Act.put _ (some 125) _ = _
          simp only [Act.put, sA, sZ, sS, i64_w, i32_w]
          rfl
         clear VG
         refine pure_ (i := 13) (N := some 126) (v := ?_) (a' := ?_) #[t_,t_,t_,t_,t_,t_,t_,t_,t_,t_,t_,t_,t_,t_,f_,f_,f_,f_,f_,f_,f_,f_,f_,f_] rfl rfl (any_of HT_.out (by kernel_rfl)) (fun _ _ _ h => h) (Or.inl ⟨by rfl, ?_⟩) ?_ ?_
         rotate_left
         ·intro w'
          go_simp
          with_reducible rfl
         rotate_left
         ·simp only [Act.put, sA, sZ, sS, i64_w, i32_w]
          rfl
         refine pure_ (i := 14) (N := some 127) (v := ?_) (a' := ?_) #[t_,t_,t_,t_,t_,t_,t_,t_,t_,t_,t_,t_,t_,t_,t_,f_,f_,f_,f_,f_,f_,f_,f_,f_] rfl rfl (any_of HT_.out (by kernel_rfl)) (fun _ _ _ h => h) (Or.inl ⟨by rfl, ?_⟩) ?_ ?_
         rotate_left
         ·intro w'
          go_simp
          with_reducible rfl
         rotate_left
         ·simp only [Act.put, sA, sZ, sS, i64_w, i32_w]
          rfl
         refine pure_ (i := 15) (N := some 128) (v := ?_) (a' := ?_) #[t_,t_,t_,t_,t_,t_,t_,t_,t_,t_,t_,t_,t_,t_,t_,t_,f_,f_,f_,f_,f_,f_,f_,f_] rfl rfl (any_of HT_.out (by kernel_rfl)) (fun _ _ _ h => h) (Or.inl ⟨by rfl, ?_⟩) ?_ ?_
         rotate_left
         ·intro w'
          go_simp
          with_reducible rfl
         rotate_left
         ·simp only [Act.put, sA, sZ, sS, i64_w, i32_w]
          rfl
         refine pure_ (i := 16) (N := some 129) (v := ?_) (a' := ?_) #[t_,t_,t_,t_,t_,t_,t_,t_,t_,t_,t_,t_,t_,t_,t_,t_,t_,f_,f_,f_,f_,f_,f_,f_] rfl rfl (any_of HT_.out (by kernel_rfl)) (fun _ _ _ h => h) (Or.inl ⟨by rfl, ?_⟩) ?_ ?_
         rotate_left
         ·intro w'
          go_simp
          with_reducible rfl
         rotate_left
         ·simp only [Act.put, sA, sZ, sS, i64_w, i32_w]
          rfl
         refine pure_ (i := 18) (N := some 131) (v := ?_) (a' := ?_) #[t_,t_,t_,t_,t_,t_,t_,t_,t_,t_,t_,t_,t_,t_,t_,t_,t_,f_,t_,f_,f_,f_,f_,f_] rfl rfl (any_of HT_.out (by kernel_rfl)) (fun _ _ _ h => h) (Or.inl ⟨by rfl, ?_⟩) ?_ ?_
         rotate_left
         ·intro w'
          go_simp
          with_reducible rfl
         rotate_left
         ·simp only [Act.put, sA, sZ, sS, i64_w, i32_w]
          rfl
         refine pure_ (i := 19) (N := some 132) (v := ?_) (a' := ?_) #[t_,t_,t_,t_,t_,t_,t_,t_,t_,t_,t_,t_,t_,t_,t_,t_,t_,f_,t_,t_,f_,f_,f_,f_] rfl rfl (any_of HT_.out (by kernel_rfl)) (fun _ _ _ h => h) (Or.inl ⟨by rfl, ?_⟩) ?_ ?_
         rotate_left
         ·intro w'
          go_simp
          with_reducible rfl
         rotate_left
         ·simp only [Act.put, sA, sZ, sS, i64_w, i32_w]
          rfl
         refine take_ (i := 20) (N := some 133) (v := ?_) (a' := ?_) #[t_,t_,t_,t_,t_,t_,t_,t_,t_,t_,t_,t_,t_,t_,t_,t_,t_,f_,t_,t_,t_,f_,f_,f_] rfl rfl (take_ofW HT_.out HW_.out (by kernel_rfl)) (fun _ _ _ h => h) (Or.inl ⟨by rfl, ?_⟩) hHeld ?_ ?_
         rotate_left
         ·rintro w' ⟨s0, s1⟩
          go_simp
          with_reducible rfl
         rotate_left
         ·simp only [Act.put, sA, sZ, sS, i64_w, i32_w]
          rfl
         refine pure_ (i := 21) (N := some 134) (v := ?_) (a' := ?_) #[t_,t_,t_,t_,t_,t_,t_,t_,t_,t_,t_,t_,t_,t_,t_,t_,t_,f_,t_,t_,t_,t_,f_,f_] rfl rfl (any_of HT_.out (by kernel_rfl)) (fun _ _ _ h => h) (Or.inl ⟨by rfl, ?_⟩) ?_ ?_
         rotate_left
         ·intro w'
          go_simp
          with_reducible rfl
         rotate_left
         ·simp only [Act.put, sA, sZ, sS, i64_w, i32_w]
          rfl
         refine one_ (i := 17) (N := some 130) #[t_,t_,t_,t_,t_,t_,t_,t_,t_,t_,t_,t_,t_,t_,t_,t_,t_,t_,t_,t_,t_,t_,f_,f_] rfl rfl (one_of HT_.out (by kernel_rfl)) (by decide) (fun K hK => ?_)
         refine goes_ Try.func113 (by kernel_rfl) rfl #[.pointer (some ⟨g, 0, none⟩)] (by rfl) rfl rfl (by (try simp only [List.map_toArray, List.map_cons, List.map_nil]); first | done | rfl) ?_
         refine (room_calls VH.out.dev VH.out.vlt).mono ?_
         rintro e wu ⟨rfl, hbu⟩
         refine ⟨_, rfl, ?_⟩
         rw [ZL.out]
         have UL := Aside0.mk (below_step VL.out hbu)
         have UG := blk_below YG.out UL.out
         clear hbu
         refine hK.out _ _ ⟨(blk_cell UG 4).trans rfl, (blk_cell UG 5).trans rfl⟩ (fun hHeld => ?_)
         clear hK K
         refine norm_ (a' := ?_) ?_ ?_
         rotate_left
         ·show Act.put _ (some 130) _ = _
          simp only [Act.put, sA, sZ, sS, i64_w, i32_w]
          rfl
         clear UG
         refine pure_ (i := 22) (N := some 135) (v := ?_) (a' := ?_) #[t_,t_,t_,t_,t_,t_,t_,t_,t_,t_,t_,t_,t_,t_,t_,t_,t_,t_,t_,t_,t_,t_,t_,f_] rfl rfl (any_of HT_.out (by kernel_rfl)) (fun _ _ _ h => h) (Or.inl ⟨by rfl, ?_⟩) ?_ ?_
         rotate_left
         ·intro w'
          go_simp
          with_reducible rfl
         rotate_left
         ·simp only [Act.put, sA, sZ, sS, i64_w, i32_w]
          rfl
         refine pure_ (i := 23) (N := some 136) (v := ?_) (a' := ?_) #[t_,t_,t_,t_,t_,t_,t_,t_,t_,t_,t_,t_,t_,t_,t_,t_,t_,t_,t_,t_,t_,t_,t_,t_] rfl rfl (any_of HT_.out (by kernel_rfl)) (fun _ _ _ h => h) (Or.inl ⟨by rfl, ?_⟩) ?_ ?_
         rotate_left
         ·intro w'
          go_simp
          with_reducible rfl
         rotate_left
         ·simp only [Act.put, sA, sZ, sS, i64_w, i32_w]
          rfl
         refine done_ (done_of HT_.out (by kernel_rfl)) ?_
         have UH := Aside0.mk (YH.out.below UL.out)
         have UR := Aside0.mk (YR.out.below UL.out)
         have UB := Aside0.mk (below_step YB.out UL.out)
         go_wp2_with fail
         go_roundg k1
         case measure => omega
         case rel => exact ⟨i + 1, g, Sd, S, _, d5, v5, _, _, rfl, (by have h_ : wrap64 ((i : Int) + 1) = ((i + 1 : Nat) : Int) := (by have := hi2.out; unfold wrap64; omega); rw [h_]), ⟨by have := HK.out; omega⟩, UH, ZI, UR, ZL, ZS, UB⟩
       ·have e3 : (x.k == 3) = false := beq_eq_false_iff_ne.mpr k3
        clear k3
        by_cases k4 : x.k = 4
        ·rw [k4] at hc0
         clear e0 e1 e2 e3 k4
         go_wp2_with fail
         refine (arm_calls HH4.out.dev x.n).mono ?_
         rintro e w5 ⟨rfl, hd5, hw5⟩
         have hw5' : Went (fun k => S k ∨ Sd k) w4 w5 := ⟨⟨hw5.kept.1, fun k hk hn => hw5.kept.2 k hk (fun h => hn (.inr h))⟩, hw5.below⟩
         have HR5 := Aside0.mk (HR4.out.went hw5' (O' := fun k => S k ∨ Sd k) (fun k hk => .inl hk))
         have HB5 := Aside0.mk (HB4.out.trans (hw5'.to_below HB4.out.size HS.out))
         have hI5 := HI.out.arm x.n
         have BX5 := Aside0.mk (blk_kept BX4.out hw5'.kept (fun h => by have h1 := HG.out gx h; have h2 := GX.out; omega))
         have hv5 := HH4.out.vlt.kept hw5.kept HH4.out.apart
         obtain ⟨arm', hwr, ha⟩ := rarm_eq (d := d) (strOfNums d.b) (wS d.ws) ((0 : Int)) x.n HBX.out.2 (i + 1)
         clear hwr ha arm'
         clear hw5 hw5' hc0 hc1 hc2 hc3
         obtain ⟨vr, vl, arm, hg1, hg2, hg4, hg3, hg5⟩ := HR5.out.at_
         obtain ⟨Ar, cr, hvr⟩ := Kd.R_slice hg2
         subst hvr
         obtain ⟨Al, cl, hvl⟩ := Kd.V_slice hg4
         subst hvl
         have hr0 : w5.cell? ⟨gr, 0, none⟩ = some (.string (strOfNums d.b)) := (blk_cell hg1 0).trans rfl
         have hr1 : w5.cell? ⟨gr, 1, none⟩ = some (.slice Ar (wS d.ws).length cr) := (blk_cell hg1 1).trans rfl
         have hr2 : w5.cell? ⟨gr, 2, none⟩ = some (.bool d.dead) := (blk_cell hg1 2).trans rfl
         have hr3 : w5.cell? ⟨gr, 3, none⟩ = some (.int .i64 arm) := (blk_cell hg1 3).trans rfl
         have hr4 : w5.cell? ⟨gr, 4, none⟩ = some (.slice Al v.l.length cl) := (blk_cell hg1 4).trans rfl
         have hr5 : w5.cell? ⟨gr, 5, none⟩ = some (.int .i64 v.en) := (blk_cell hg1 5).trans rfl
         have hr6 : w5.cell? ⟨gr, 6, none⟩ = some (.bool v.dead) := (blk_cell hg1 6).trans rfl
         have BRR := Aside0.mk hg1
         have HG2 := Aside0.mk hg2
         have HG3 := Aside0.mk hg3
         have HG4 := Aside0.mk hg4
         have HG5 := Aside0.mk hg5
         clear hg1 hg2 hg3 hg4 hg5
         obtain ⟨arm', hwr, ha⟩ := rarm_eq (d := d) (strOfNums d.b) (wS d.ws) arm x.n HBX.out.2 (i + 1)
         obtain ⟨d5, hdq⟩ : ∃ d5, d5 = armD d x.n := ⟨_, rfl⟩
         have hwr : horariumref48_Arm.f (strOfNums d.b) (wS d.ws) d.dead arm x.n = some (strOfNums d5.b, wS d5.ws, d5.dead, arm') := by rw [hdq]; exact hwr
         rw [← hdq] at hI5 hd5 ha
         have H5 := Aside0.mk (show Both Sd S w5 gd g d5 v from ⟨hd5, hv5, HH4.out.apart⟩)
         have ZI := Aside0.mk hI5
         have ZL := Aside0.mk (show d5.b.length = n by rw [hdq]; exact HL.out)
         have ZS := HS
         have HWR := Aside0.mk hwr
         have HA6 := Aside0.mk ha
         have hc1 : w5.cell? ⟨gx, 1, none⟩ = some (.int .i64 x.n) := (blk_cell BX5.out 1).trans rfl
         clear hwr ha hI5 hd5 hv5 hdq
         go_wp2_with fail
         refine (horariumref48_Arm.calls (strOfNums d.b) (fun k => some k = (Value.slice Ar (wS d.ws).length cr).ownBlock) (.slice Ar (wS d.ws).length cr) (wS d.ws) d.dead arm x.n _ _ _ _ w w5 HB5.out HG2.out HWR.out).mono ?_
         rintro e w6 ⟨v6, rfl, hr6_, hb6, hk6⟩
         obtain ⟨A6, c6, hv6⟩ := Kd.R_slice hr6_
         subst hv6
         have HR6 := Aside0.mk hr6_
         have HV6 := Aside0.mk (show Kd.V k68 68 w6 w.heap.size (fun k => PL k ∧ some k ≠ (Value.slice A6 (wS d5.ws).length c6).ownBlock) (.slice Al v.l.length cl) v.l from Kd.V_mono (Kd.V_kept (Kd.V_bound HG4.out) hk6 (fun k hk e => hk.1.2 e)) (fun k hk => ⟨hk.1.1, fun e => (hr6_.1 k e.symm).elim (fun e2 => hk.1.2 e2) (fun h => by have := hk.2; omega)⟩))
         have HB6 := Aside0.mk hb6
         have HK6 := Aside0.mk hk6
         have BR6 := Aside0.mk (blk_kept BRR.out HK6.out (fun e => (HG5.out gr e.symm).2 rfl))
         have HPL := Aside0.mk (show ∀ k, PL k → (¬ (S k ∨ Sd k) ∧ k ≠ gr) ∨ w5.heap.size ≤ k from fun k hk => .inl (HR5.out.off k hk))
         clear hr6_ hb6 hk6 hc1 hr0 hr1 hr2 hr3 hr4 hr5 hr6
         have HO5 := Aside0.mk H5.out.lt
         have HGO := Aside0.mk HR5.out.goff
         have HGL := Aside0.mk HR5.out.glt
         have hy0 : w6.cell? ⟨gr, 0, none⟩ = some (.string (strOfNums d.b)) := (blk_cell BR6.out 0).trans rfl
         have hz0 := blk_frozen BR6.out 0
         have hy1 : w6.cell? ⟨gr, 1, none⟩ = some (.slice Ar (wS d.ws).length cr) := (blk_cell BR6.out 1).trans rfl
         have hz1 := blk_frozen BR6.out 1
         have hy2 : w6.cell? ⟨gr, 2, none⟩ = some (.bool d.dead) := (blk_cell BR6.out 2).trans rfl
         have hz2 := blk_frozen BR6.out 2
         have hy3 : w6.cell? ⟨gr, 3, none⟩ = some (.int .i64 arm) := (blk_cell BR6.out 3).trans rfl
         have hz3 := blk_frozen BR6.out 3
         have hy4 : w6.cell? ⟨gr, 4, none⟩ = some (.slice Al v.l.length cl) := (blk_cell BR6.out 4).trans rfl
         have hz4 := blk_frozen BR6.out 4
         have hy5 : w6.cell? ⟨gr, 5, none⟩ = some (.int .i64 v.en) := (blk_cell BR6.out 5).trans rfl
         have hz5 := blk_frozen BR6.out 5
         have hy6 : w6.cell? ⟨gr, 6, none⟩ = some (.bool v.dead) := (blk_cell BR6.out 6).trans rfl
         have hz6 := blk_frozen BR6.out 6
         go_wp2_with ((with_reducible refine gate_store (t := 89) (p := 95) rfl ?_); refine store_event (t := 89) (p := 95) (v := .tmp 94) (w1 := ((((w6.setCell ⟨gr, 0, none⟩ (.string (strOfNums d5.b))).setCell ⟨gr, 1, none⟩ (.slice A6 (wS d5.ws).length c6)).setCell ⟨gr, 2, none⟩ (.bool d5.dead)).setCell ⟨gr, 3, none⟩ (.int .i64 arm'))) ?hg ?ho ?hn ?hr ?_; (case ho => rfl); (case hg => rfl); (case hn => rfl); (case hr => first | (go_simp; done) | (go_simp; rfl)); intro w7 hw3; have hg7 : w7.heap[gr]? = some (.cells #[.string (strOfNums d5.b), .slice A6 (wS d5.ws).length c6, .bool d5.dead, .int .i64 arm', .slice Al v.l.length cl, .int .i64 v.en, .bool v.dead] 140 (0, 0)) := (by rw [hw3]; exact (blk_put (blk_put (blk_put (blk_put BR6.out 0 _ rfl) 1 _ rfl) 2 _ rfl) 3 _ rfl)); have hk7 : Kept w6 w7 (fun k => k = gr) := (by rw [hw3]; exact (((((Kept.refl w6 (fun k => k = gr)).setCell (.inl rfl) _).setCell (.inl rfl) _).setCell (.inl rfl) _).setCell (.inl rfl) _)); have hs7 : w7.heap.size = w6.heap.size := (by rw [hw3]; simp only [size_set]); have hz_ := refv_put (O := (fun k => S k ∨ Sd k)) (PL1 := PL) HG5.out HO5.out HGO.out HGL.out HK6.out HR6.out HV6.out HPL.out HA6.out hg7 hk7 hs7; have ZR := Aside0.mk hz_.1; have ZK := Aside0.mk hz_.2; have ZB := Aside0.mk (show Below w.heap.size w w7 by rw [hw3]; exact ((((HB6.out.setCell (p := ⟨gr, 0, none⟩) HGE.out _).setCell (p := ⟨gr, 1, none⟩) HGE.out _).setCell (p := ⟨gr, 2, none⟩) HGE.out _).setCell (p := ⟨gr, 3, none⟩) HGE.out _)); clear hw3 hg7 hk7 hs7 hz_ hy0 hz0 hy1 hz1 hy2 hz2 hy3 hz3 hy4 hz4 hy5 hz5 hy6 hz6)
         have ZH := Aside0.mk (H5.out.kept ZK.out (fun k hk e => e.elim (fun e => (HG5.out k e.symm).1 hk) (fun e => HGO.out (e ▸ hk))))
         clear HG2 HG3 HG4 HWR HA6 HR6 HV6 HK6 BR6 BRR HR5 H5 HB5 HB6
         obtain ⟨vr, vl, arm, hg1, hg2, hg4, hg3, hg5⟩ := ZR.out.at_
         obtain ⟨Al, cl, hvl⟩ := Kd.V_slice hg4
         subst hvl
         have hy4 : w7.cell? ⟨gr, 4, none⟩ = some (.slice Al v.l.length cl) := (blk_cell hg1 4).trans rfl
         have hy5 : w7.cell? ⟨gr, 5, none⟩ = some (.int .i64 v.en) := (blk_cell hg1 5).trans rfl
         have HV := Aside0.mk hg4
         have BG := Aside0.mk hg1
         have hct := ZI.out.count
         have HVD := Aside0.mk (show Datas v.l by rw [ZI.out.vl]; exact datas_append ZI.out.ds ZI.out.dt)
         have HVR := Aside0.mk (show Rights v.l by rw [ZI.out.vl]; exact rights_append ZI.out.rs ZI.out.rt)
         have HVN := Aside0.mk (show v.l.length ≤ 20000 by rw [ZI.out.vl, List.length_append]; exact hct)
         clear hg1 hg2 hg3 hg4 hg5 hct
         go_wp2_with fail
         refine start_ (n := 24) (S := fun w' => w'.cell? ⟨gr, 4, none⟩ = some (.slice Al v.l.length cl) ∧ w'.cell? ⟨gr, 5, none⟩ = some (.int .i64 v.en)) (ds := []) #[f_,f_,f_,f_,f_,f_,f_,f_,f_,f_,f_,f_,f_,f_,f_,f_,f_,f_,f_,f_,f_,f_,f_,f_] (by kernel_rfl) rfl rfl ⟨hy4, hy5⟩ (fun hHeld => ?_); refine with_tabW pl35.tab pl35.bits (fun HT_ HW_ => ?_)
         have YH := Aside0.mk (ZH.out.below (below_drew (Below.refl _ _))); have YR := Aside0.mk (ZR.out.below (below_drew (Below.refl _ _))); have YB := Aside0.mk (below_drew1 ZB.out); have YV := Aside0.mk (Kd.V_drew HV.out); have YG := Aside0.mk (blk_drew BG.out); clear ZH ZR ZB HV BG hy4 hy5; generalize w7.drew = wy at YH YR YB YV YG hHeld ⊢
         refine pure_ (i := 0) (N := some 113) (v := ?_) (a' := ?_) #[t_,f_,f_,f_,f_,f_,f_,f_,f_,f_,f_,f_,f_,f_,f_,f_,f_,f_,f_,f_,f_,f_,f_,f_] rfl rfl (any_of HT_.out (by kernel_rfl)) (fun _ _ _ h => h) (Or.inl ⟨by rfl, ?_⟩) ?_ ?_
         rotate_left
         ·intro w'
          go_simp
          with_reducible rfl
         rotate_left
         ·simp only [Act.put, sA, sZ, sS, i64_w, i32_w]
          rfl
         refine pure_ (i := 1) (N := some 114) (v := ?_) (a' := ?_) #[t_,t_,f_,f_,f_,f_,f_,f_,f_,f_,f_,f_,f_,f_,f_,f_,f_,f_,f_,f_,f_,f_,f_,f_] rfl rfl (any_of HT_.out (by kernel_rfl)) (fun _ _ _ h => h) (Or.inl ⟨by rfl, ?_⟩) ?_ ?_
         rotate_left
         ·intro w'
          go_simp
          with_reducible rfl
         rotate_left
         ·simp only [Act.put, sA, sZ, sS, i64_w, i32_w]
          rfl
         refine pure_ (i := 2) (N := some 115) (v := ?_) (a' := ?_) #[t_,t_,t_,f_,f_,f_,f_,f_,f_,f_,f_,f_,f_,f_,f_,f_,f_,f_,f_,f_,f_,f_,f_,f_] rfl rfl (any_of HT_.out (by kernel_rfl)) (fun _ _ _ h => h) (Or.inl ⟨by rfl, ?_⟩) ?_ ?_
         rotate_left
         ·intro w'
          go_simp
          with_reducible rfl
         rotate_left
         ·simp only [Act.put, sA, sZ, sS, i64_w, i32_w]
          rfl
         refine pure_ (i := 3) (N := some 116) (v := ?_) (a' := ?_) #[t_,t_,t_,t_,f_,f_,f_,f_,f_,f_,f_,f_,f_,f_,f_,f_,f_,f_,f_,f_,f_,f_,f_,f_] rfl rfl (any_of HT_.out (by kernel_rfl)) (fun _ _ _ h => h) (Or.inl ⟨by rfl, ?_⟩) ?_ ?_
         rotate_left
         ·intro w'
          go_simp
          with_reducible rfl
         rotate_left
         ·simp only [Act.put, sA, sZ, sS, i64_w, i32_w]
          rfl
         refine pure_ (i := 4) (N := some 117) (v := ?_) (a' := ?_) #[t_,t_,t_,t_,t_,f_,f_,f_,f_,f_,f_,f_,f_,f_,f_,f_,f_,f_,f_,f_,f_,f_,f_,f_] rfl rfl (any_of HT_.out (by kernel_rfl)) (fun _ _ _ h => h) (Or.inl ⟨by rfl, ?_⟩) ?_ ?_
         rotate_left
         ·intro w'
          go_simp
          with_reducible rfl
         rotate_left
         ·simp only [Act.put, sA, sZ, sS, i64_w, i32_w]
          rfl
         refine pure_ (i := 5) (N := some 118) (v := ?_) (a' := ?_) #[t_,t_,t_,t_,t_,t_,f_,f_,f_,f_,f_,f_,f_,f_,f_,f_,f_,f_,f_,f_,f_,f_,f_,f_] rfl rfl (any_of HT_.out (by kernel_rfl)) (fun _ _ _ h => h) (Or.inl ⟨by rfl, ?_⟩) ?_ ?_
         rotate_left
         ·intro w'
          go_simp
          with_reducible rfl
         rotate_left
         ·simp only [Act.put, sA, sZ, sS, i64_w, i32_w]
          rfl
         refine pure_ (i := 6) (N := some 119) (v := ?_) (a' := ?_) #[t_,t_,t_,t_,t_,t_,t_,f_,f_,f_,f_,f_,f_,f_,f_,f_,f_,f_,f_,f_,f_,f_,f_,f_] rfl rfl (any_of HT_.out (by kernel_rfl)) (fun _ _ _ h => h) (Or.inl ⟨by rfl, ?_⟩) ?_ ?_
         rotate_left
         ·intro w'
          go_simp
          with_reducible rfl
         rotate_left
         ·simp only [Act.put, sA, sZ, sS, i64_w, i32_w]
          rfl
         refine pure_ (i := 7) (N := some 120) (v := ?_) (a' := ?_) #[t_,t_,t_,t_,t_,t_,t_,t_,f_,f_,f_,f_,f_,f_,f_,f_,f_,f_,f_,f_,f_,f_,f_,f_] rfl rfl (any_of HT_.out (by kernel_rfl)) (fun _ _ _ h => h) (Or.inl ⟨by rfl, ?_⟩) ?_ ?_
         rotate_left
         ·intro w'
          go_simp
          with_reducible rfl
         rotate_left
         ·simp only [Act.put, sA, sZ, sS, i64_w, i32_w]
          rfl
         refine pure_ (i := 8) (N := some 121) (v := ?_) (a' := ?_) #[t_,t_,t_,t_,t_,t_,t_,t_,t_,f_,f_,f_,f_,f_,f_,f_,f_,f_,f_,f_,f_,f_,f_,f_] rfl rfl (any_of HT_.out (by kernel_rfl)) (fun _ _ _ h => h) (Or.inl ⟨by rfl, ?_⟩) ?_ ?_
         rotate_left
         ·intro w'
          go_simp
          with_reducible rfl
         rotate_left
         ·simp only [Act.put, sA, sZ, sS, i64_w, i32_w]
          rfl
         refine pure_ (i := 10) (N := some 123) (v := ?_) (a' := ?_) #[t_,t_,t_,t_,t_,t_,t_,t_,t_,f_,t_,f_,f_,f_,f_,f_,f_,f_,f_,f_,f_,f_,f_,f_] rfl rfl (any_of HT_.out (by kernel_rfl)) (fun _ _ _ h => h) (Or.inl ⟨by rfl, ?_⟩) ?_ ?_
         rotate_left
         ·intro w'
          go_simp
          with_reducible rfl
         rotate_left
         ·simp only [Act.put, sA, sZ, sS, i64_w, i32_w]
          rfl
         refine take_ (i := 11) (N := some 124) (v := ?_) (a' := ?_) #[t_,t_,t_,t_,t_,t_,t_,t_,t_,f_,t_,t_,f_,f_,f_,f_,f_,f_,f_,f_,f_,f_,f_,f_] rfl rfl (take_ofW HT_.out HW_.out (by kernel_rfl)) (fun _ _ _ h => h) (Or.inl ⟨by rfl, ?_⟩) hHeld ?_ ?_
         rotate_left
         ·rintro w' ⟨s0, s1⟩
          go_simp
          with_reducible rfl
         rotate_left
         ·simp only [Act.put, sA, sZ, sS, i64_w, i32_w]
          rfl
         refine one_ (i := 9) (N := some 122) #[t_,t_,t_,t_,t_,t_,t_,t_,t_,t_,t_,t_,f_,f_,f_,f_,f_,f_,f_,f_,f_,f_,f_,f_] rfl rfl (one_of HT_.out (by kernel_rfl)) (by decide) (fun K hK => ?_)
         refine goes_ Try.func67 (by kernel_rfl) rfl #[.pointer (some ⟨g, 0, none⟩)] (by rfl) rfl rfl (by (try simp only [List.map_toArray, List.map_cons, List.map_nil]); first | done | rfl) ?_
         refine (entries_calls YH.out.vlt (by have := HVN.out; omega) (fun y hy => (HVR.out y hy).2.2)).mono ?_
         rintro e wx ⟨ux, rfl, hux, hbx⟩
         refine ⟨_, rfl, ?_⟩
         obtain ⟨Ax, cx, hux'⟩ := Kd.S_slice hux
         subst hux'
         have XU := Aside0.mk hux
         have XL := Aside0.mk hbx
         have XG := blk_below YG.out hbx
         clear hux hbx
         refine hK.out _ _ ⟨(blk_cell XG 4).trans rfl, (blk_cell XG 5).trans rfl⟩ (fun hHeld => ?_)
         clear hK K
         refine norm_ (a' := ?_) ?_ ?_
         rotate_left
         ·show Act.put _ (some 122) _ = _
          simp only [Act.put, sA, sZ, sS, i64_w, i32_w]
          rfl
         clear XG
         refine one_ (i := 12) (N := some 125) #[t_,t_,t_,t_,t_,t_,t_,t_,t_,t_,t_,t_,t_,f_,f_,f_,f_,f_,f_,f_,f_,f_,f_,f_] rfl rfl (one_of HT_.out (by kernel_rfl)) (by decide) (fun K hK => ?_)
         refine goes_ Try.func68 (by kernel_rfl) rfl #[.slice Ax v.l.length cx, .slice Al v.l.length cl] (by rfl) rfl rfl (by (try simp only [List.map_toArray, List.map_cons, List.map_nil]); first | done | rfl) ?_
         obtain ⟨ks, hks⟩ : ∃ ks, v.l.length + 2 ≤ ks := ⟨_, Nat.le_refl _⟩
         refine (horariumref47_Same.calls ks Ax cx v.l Al cl v.l true _ (Kd.S_reads' XU.out).2.2 (Kd.S_reads' XU.out).2.1 (Kd.V_reads' (Kd.V_below YV.out XL.out)).2.2 (Kd.V_reads' (Kd.V_below YV.out XL.out)).2.1 ((rsame_eq ks v.l v.l HVD.out HVD.out (by have := HVN.out; omega) hks).trans (congrArg some (decide_eq_true rfl)))).mono ?_
         rintro e wv ⟨rfl, hdv⟩
         refine ⟨_, rfl, ?_⟩
         have VL := Aside0.mk (below_step XL.out hdv.below)
         have VG := blk_below YG.out VL.out
         have VH := Aside0.mk (YH.out.below VL.out)
         clear hdv hks
         refine hK.out _ _ ⟨(blk_cell VG 4).trans rfl, (blk_cell VG 5).trans rfl⟩ (fun hHeld => ?_)
         clear hK K
         refine norm_ (a' := ?_) ?_ ?_
         rotate_left
         ·show Act.put _ (some 125) _ = _
          simp only [Act.put, sA, sZ, sS, i64_w, i32_w]
          rfl
         clear VG
         refine pure_ (i := 13) (N := some 126) (v := ?_) (a' := ?_) #[t_,t_,t_,t_,t_,t_,t_,t_,t_,t_,t_,t_,t_,t_,f_,f_,f_,f_,f_,f_,f_,f_,f_,f_] rfl rfl (any_of HT_.out (by kernel_rfl)) (fun _ _ _ h => h) (Or.inl ⟨by rfl, ?_⟩) ?_ ?_
         rotate_left
         ·intro w'
          go_simp
          with_reducible rfl
         rotate_left
         ·simp only [Act.put, sA, sZ, sS, i64_w, i32_w]
          rfl
         refine pure_ (i := 14) (N := some 127) (v := ?_) (a' := ?_) #[t_,t_,t_,t_,t_,t_,t_,t_,t_,t_,t_,t_,t_,t_,t_,f_,f_,f_,f_,f_,f_,f_,f_,f_] rfl rfl (any_of HT_.out (by kernel_rfl)) (fun _ _ _ h => h) (Or.inl ⟨by rfl, ?_⟩) ?_ ?_
         rotate_left
         ·intro w'
          go_simp
          with_reducible rfl
         rotate_left
         ·simp only [Act.put, sA, sZ, sS, i64_w, i32_w]
          rfl
         refine pure_ (i := 15) (N := some 128) (v := ?_) (a' := ?_) #[t_,t_,t_,t_,t_,t_,t_,t_,t_,t_,t_,t_,t_,t_,t_,t_,f_,f_,f_,f_,f_,f_,f_,f_] rfl rfl (any_of HT_.out (by kernel_rfl)) (fun _ _ _ h => h) (Or.inl ⟨by rfl, ?_⟩) ?_ ?_
         rotate_left
         ·intro w'
          go_simp
          with_reducible rfl
         rotate_left
         ·simp only [Act.put, sA, sZ, sS, i64_w, i32_w]
          rfl
         refine pure_ (i := 16) (N := some 129) (v := ?_) (a' := ?_) #[t_,t_,t_,t_,t_,t_,t_,t_,t_,t_,t_,t_,t_,t_,t_,t_,t_,f_,f_,f_,f_,f_,f_,f_] rfl rfl (any_of HT_.out (by kernel_rfl)) (fun _ _ _ h => h) (Or.inl ⟨by rfl, ?_⟩) ?_ ?_
         rotate_left
         ·intro w'
          go_simp
          with_reducible rfl
         rotate_left
         ·simp only [Act.put, sA, sZ, sS, i64_w, i32_w]
          rfl
         refine pure_ (i := 18) (N := some 131) (v := ?_) (a' := ?_) #[t_,t_,t_,t_,t_,t_,t_,t_,t_,t_,t_,t_,t_,t_,t_,t_,t_,f_,t_,f_,f_,f_,f_,f_] rfl rfl (any_of HT_.out (by kernel_rfl)) (fun _ _ _ h => h) (Or.inl ⟨by rfl, ?_⟩) ?_ ?_
         rotate_left
         ·intro w'
          go_simp
          with_reducible rfl
         rotate_left
         ·simp only [Act.put, sA, sZ, sS, i64_w, i32_w]
          rfl
         refine pure_ (i := 19) (N := some 132) (v := ?_) (a' := ?_) #[t_,t_,t_,t_,t_,t_,t_,t_,t_,t_,t_,t_,t_,t_,t_,t_,t_,f_,t_,t_,f_,f_,f_,f_] rfl rfl (any_of HT_.out (by kernel_rfl)) (fun _ _ _ h => h) (Or.inl ⟨by rfl, ?_⟩) ?_ ?_
         rotate_left
         ·intro w'
          go_simp
          with_reducible rfl
         rotate_left
         ·simp only [Act.put, sA, sZ, sS, i64_w, i32_w]
          rfl
         refine take_ (i := 20) (N := some 133) (v := ?_) (a' := ?_) #[t_,t_,t_,t_,t_,t_,t_,t_,t_,t_,t_,t_,t_,t_,t_,t_,t_,f_,t_,t_,t_,f_,f_,f_] rfl rfl (take_ofW HT_.out HW_.out (by kernel_rfl)) (fun _ _ _ h => h) (Or.inl ⟨by rfl, ?_⟩) hHeld ?_ ?_
         rotate_left
         ·rintro w' ⟨s0, s1⟩
          go_simp
          with_reducible rfl
         rotate_left
         ·simp only [Act.put, sA, sZ, sS, i64_w, i32_w]
          rfl
         refine pure_ (i := 21) (N := some 134) (v := ?_) (a' := ?_) #[t_,t_,t_,t_,t_,t_,t_,t_,t_,t_,t_,t_,t_,t_,t_,t_,t_,f_,t_,t_,t_,t_,f_,f_] rfl rfl (any_of HT_.out (by kernel_rfl)) (fun _ _ _ h => h) (Or.inl ⟨by rfl, ?_⟩) ?_ ?_
         rotate_left
         ·intro w'
          go_simp
          with_reducible rfl
         rotate_left
         ·simp only [Act.put, sA, sZ, sS, i64_w, i32_w]
          rfl
         refine one_ (i := 17) (N := some 130) #[t_,t_,t_,t_,t_,t_,t_,t_,t_,t_,t_,t_,t_,t_,t_,t_,t_,t_,t_,t_,t_,t_,f_,f_] rfl rfl (one_of HT_.out (by kernel_rfl)) (by decide) (fun K hK => ?_)
         refine goes_ Try.func113 (by kernel_rfl) rfl #[.pointer (some ⟨g, 0, none⟩)] (by rfl) rfl rfl (by (try simp only [List.map_toArray, List.map_cons, List.map_nil]); first | done | rfl) ?_
         refine (room_calls VH.out.dev VH.out.vlt).mono ?_
         rintro e wu ⟨rfl, hbu⟩
         refine ⟨_, rfl, ?_⟩
         rw [ZL.out]
         have UL := Aside0.mk (below_step VL.out hbu)
         have UG := blk_below YG.out UL.out
         clear hbu
         refine hK.out _ _ ⟨(blk_cell UG 4).trans rfl, (blk_cell UG 5).trans rfl⟩ (fun hHeld => ?_)
         clear hK K
         refine norm_ (a' := ?_) ?_ ?_
         rotate_left
         ·show Act.put _ (some 130) _ = _
          simp only [Act.put, sA, sZ, sS, i64_w, i32_w]
          rfl
         clear UG
         refine pure_ (i := 22) (N := some 135) (v := ?_) (a' := ?_) #[t_,t_,t_,t_,t_,t_,t_,t_,t_,t_,t_,t_,t_,t_,t_,t_,t_,t_,t_,t_,t_,t_,t_,f_] rfl rfl (any_of HT_.out (by kernel_rfl)) (fun _ _ _ h => h) (Or.inl ⟨by rfl, ?_⟩) ?_ ?_
         rotate_left
         ·intro w'
          go_simp
          with_reducible rfl
         rotate_left
         ·simp only [Act.put, sA, sZ, sS, i64_w, i32_w]
          rfl
         refine pure_ (i := 23) (N := some 136) (v := ?_) (a' := ?_) #[t_,t_,t_,t_,t_,t_,t_,t_,t_,t_,t_,t_,t_,t_,t_,t_,t_,t_,t_,t_,t_,t_,t_,t_] rfl rfl (any_of HT_.out (by kernel_rfl)) (fun _ _ _ h => h) (Or.inl ⟨by rfl, ?_⟩) ?_ ?_
         rotate_left
         ·intro w'
          go_simp
          with_reducible rfl
         rotate_left
         ·simp only [Act.put, sA, sZ, sS, i64_w, i32_w]
          rfl
         refine done_ (done_of HT_.out (by kernel_rfl)) ?_
         have UH := Aside0.mk (YH.out.below UL.out)
         have UR := Aside0.mk (YR.out.below UL.out)
         have UB := Aside0.mk (below_step YB.out UL.out)
         go_wp2_with fail
         go_roundg k1
         case measure => omega
         case rel => exact ⟨i + 1, g, Sd, S, _, d5, v, s, t, rfl, (by have h_ : wrap64 ((i : Int) + 1) = ((i + 1 : Nat) : Int) := (by have := hi2.out; unfold wrap64; omega); rw [h_]), ⟨by have := HK.out; omega⟩, UH, ZI, UR, ZL, ZS, UB⟩
        ·have e4 : (x.k == 4) = false := beq_eq_false_iff_ne.mpr k4
         clear k4
         by_cases k5 : x.k = 5
         ·rw [k5] at hc0
          clear e0 e1 e2 e3 e4 k5
          go_wp2_with fail
          refine (crash_calls HH4.out.dev x.n).mono ?_
          rintro e w5 ⟨rfl, hd5, hw5⟩
          obtain ⟨_, hcl, hcr, hcn, hcb, hI5⟩ := HI.out.crash x.n
          have hw5' : Went (fun k => S k ∨ Sd k) w4 w5 := ⟨⟨hw5.kept.1, fun k hk hn => hw5.kept.2 k hk (fun h => hn (.inr h))⟩, hw5.below⟩
          have D5 := Aside0.mk hd5
          have HB5 := Aside0.mk (HB4.out.trans (hw5'.to_below HB4.out.size HS.out))
          have HR5 := Aside0.mk (HR4.out.went hw5' (O' := fun k => Sd k) (fun k hk => .inl (.inr hk)))
          have BX5 := Aside0.mk (blk_kept BX4.out hw5'.kept (fun h => by have h1 := HG.out gx h; have h2 := GX.out; omega))
          obtain ⟨L, hL⟩ : ∃ L, L = s ++ t.take x.n.toNat := ⟨_, rfl⟩
          rw [← hL] at hcr hcn hI5
          have HCR := Aside0.mk hcr
          have HCN := Aside0.mk hcn
          have HCB := Aside0.mk hcb
          have HI5 := Aside0.mk hI5
          have HCL := Aside0.mk (show (crashD d x.n).b.length = n from hcl.trans HL.out)
          clear hw5 hw5' hd5 hcl hcr hcn hcb hI5 hL hc0 hc1 hc2 hc3
          go_wp2_with fail
          refine (open_calls D5.out rfl HCB.out).mono ?_
          rintro e w6 ⟨g6, S6, rfl, hB6, hs6, hb6⟩
          rw [HCR.out, HCN.out] at hB6
          have H6 := Aside0.mk hB6
          have HB6_ := Aside0.mk (below_step HB5.out hb6)
          have HR5 := Aside0.mk (HR5.out.went (Went.of_below hb6) (O' := fun k => S6 k ∨ Sd k) (fun k hk => hk.elim (fun h => .inr (hs6 k h)) .inl))
          have ZS := Aside0.mk (show ∀ k, S6 k ∨ Sd k → w.heap.size ≤ k from fun k hk => hk.elim (fun h => Nat.le_trans HB5.out.size (hs6 k h)) (fun h => HS.out k (.inr h)))
          have BX6 := Aside0.mk (blk_below BX5.out hb6)
          clear hB6 hs6 hb6
          obtain ⟨vr, vl, arm, hg1, hg2, hg4, hg3, hg5⟩ := HR5.out.at_
          obtain ⟨Ar, cr, hvr⟩ := Kd.R_slice hg2
          subst hvr
          obtain ⟨Al, cl, hvl⟩ := Kd.V_slice hg4
          subst hvl
          have hr0 : w6.cell? ⟨gr, 0, none⟩ = some (.string (strOfNums d.b)) := (blk_cell hg1 0).trans rfl
          have hr1 : w6.cell? ⟨gr, 1, none⟩ = some (.slice Ar (wS d.ws).length cr) := (blk_cell hg1 1).trans rfl
          have hr2 : w6.cell? ⟨gr, 2, none⟩ = some (.bool d.dead) := (blk_cell hg1 2).trans rfl
          have hr3 : w6.cell? ⟨gr, 3, none⟩ = some (.int .i64 arm) := (blk_cell hg1 3).trans rfl
          have hr4 : w6.cell? ⟨gr, 4, none⟩ = some (.slice Al v.l.length cl) := (blk_cell hg1 4).trans rfl
          have hr5 : w6.cell? ⟨gr, 5, none⟩ = some (.int .i64 v.en) := (blk_cell hg1 5).trans rfl
          have hr6 : w6.cell? ⟨gr, 6, none⟩ = some (.bool v.dead) := (blk_cell hg1 6).trans rfl
          have BRR := Aside0.mk hg1
          have HG2 := Aside0.mk hg2
          have HG3 := Aside0.mk hg3
          have HG4 := Aside0.mk hg4
          have HG5 := Aside0.mk hg5
          clear hg1 hg2 hg3 hg4 hg5
          have hc1 : w6.cell? ⟨gx, 1, none⟩ = some (.int .i64 x.n) := (blk_cell BX6.out 1).trans rfl
          obtain ⟨kf, hkf⟩ : ∃ kf, 1000001 ≤ kf := ⟨_, Nat.le_refl _⟩
          have HWR := Aside0.mk (rcrash_eq HH4.out.dev.small hws.out HH4.out.dev.fits kf hkf d.dead arm x.n)
          clear hkf
          go_wp2_with fail
          refine (horariumref48_Crash.calls kf (strOfNums d.b) Ar cr (wS d.ws) d.dead arm x.n _ _ _ _ w6 (Kd.R_reads' HG2.out).2.2 (Kd.R_reads' HG2.out).2.1 HWR.out).mono ?_
          rintro e w7 ⟨v7, rfl, hr7, hb7⟩
          obtain ⟨A6, c6, hv7⟩ := Kd.R_slice hr7
          have hv7 : v7 = .slice A6 0 c6 := hv7
          subst hv7
          have HR7 := Aside0.mk hr7
          have HB7 := Aside0.mk hb7
          clear hr7 hb7 hc1 hr0 hr1 hr2 hr3 hr4 hr5 hr6
          go_wp2_with fail
          refine (ropen_calls (w := w7) (crashD d x.n) (-1) A6 c6 (Kd.R_reads' HR7.out).2.2 (Kd.R_reads' HR7.out).2.1 D5.out.small (Nat.zero_le _) (fun y hy => by cases hy) HCB.out).mono ?_
          rintro e w8 ⟨vl8, rfl, hv8, hb8⟩
          rw [HCR.out] at hv8
          rw [HCN.out]
          obtain ⟨L6, k6, hl6⟩ := Kd.V_slice hv8
          subst hl6
          have HR6 := Aside0.mk (show Kd.R k166 166 w8 w.heap.size (fun k => some k = (Value.slice Ar (wS d.ws).length cr).ownBlock ∨ w6.heap.size ≤ k) (.slice A6 0 c6) (wS (crashD d x.n).ws) from Kd.R_lower (Kd.R_mono (Kd.R_below (Kd.R_bound HR7.out) hb8) (fun k hk => .inr hk.2.1)) HB6_.out.size)
          have HV6 := Aside0.mk (show Kd.V k68 68 w8 w.heap.size (fun k => w7.heap.size ≤ k ∧ some k ≠ (Value.slice A6 0 c6).ownBlock) (.slice L6 L.length k6) L from Kd.V_mono (show Kd.V k68 68 w8 w.heap.size _ _ _ from hv8) (fun k hk => ⟨hk, fun e => by have := Kd.R_lt HR7.out k e.symm; omega⟩))
          have HB6 := Aside0.mk (below_step (below_step HB6_.out HB7.out) hb8)
          have L68 := below_step HB7.out hb8
          have HK6 := Aside0.mk (Kept.of_below L68 (fun k => some k = (Value.slice Ar (wS d.ws).length cr).ownBlock))
          have BR6 := Aside0.mk (blk_below BRR.out L68)
          have HPL := Aside0.mk (show ∀ k, w7.heap.size ≤ k → (¬ (S6 k ∨ Sd k) ∧ k ≠ gr) ∨ w6.heap.size ≤ k from fun k hk => .inr (Nat.le_trans HB7.out.size hk))
          have HA6 := Aside0.mk (show ArmR (crashD d x.n).fuse (-1) (i + 1) from ArmR.new _)
          clear hv8 hb8 L68
          have HO5 := Aside0.mk H6.out.lt
          have HGO := Aside0.mk HR5.out.goff
          have HGL := Aside0.mk HR5.out.glt
          have hy0 : w8.cell? ⟨gr, 0, none⟩ = some (.string (strOfNums d.b)) := (blk_cell BR6.out 0).trans rfl
          have hz0 := blk_frozen BR6.out 0
          have hy1 : w8.cell? ⟨gr, 1, none⟩ = some (.slice Ar (wS d.ws).length cr) := (blk_cell BR6.out 1).trans rfl
          have hz1 := blk_frozen BR6.out 1
          have hy2 : w8.cell? ⟨gr, 2, none⟩ = some (.bool d.dead) := (blk_cell BR6.out 2).trans rfl
          have hz2 := blk_frozen BR6.out 2
          have hy3 : w8.cell? ⟨gr, 3, none⟩ = some (.int .i64 arm) := (blk_cell BR6.out 3).trans rfl
          have hz3 := blk_frozen BR6.out 3
          have hy4 : w8.cell? ⟨gr, 4, none⟩ = some (.slice Al v.l.length cl) := (blk_cell BR6.out 4).trans rfl
          have hz4 := blk_frozen BR6.out 4
          have hy5 : w8.cell? ⟨gr, 5, none⟩ = some (.int .i64 v.en) := (blk_cell BR6.out 5).trans rfl
          have hz5 := blk_frozen BR6.out 5
          have hy6 : w8.cell? ⟨gr, 6, none⟩ = some (.bool v.dead) := (blk_cell BR6.out 6).trans rfl
          have hz6 := blk_frozen BR6.out 6
          go_wp2_with ((with_reducible refine gate_store (t := 140) (p := 8) rfl ?_); refine store_event (t := 140) (p := 8) (v := .tmp 112) (w1 := (((((((w8.setCell ⟨gr, 0, none⟩ (.string (strOfNums (crashD d x.n).b))).setCell ⟨gr, 1, none⟩ (.slice A6 0 c6)).setCell ⟨gr, 2, none⟩ (.bool false)).setCell ⟨gr, 3, none⟩ (.int .i64 (-1))).setCell ⟨gr, 4, none⟩ (.slice L6 L.length k6)).setCell ⟨gr, 5, none⟩ (.int .i64 ((framesS L).length : Int))).setCell ⟨gr, 6, none⟩ (.bool false))) ?hg ?ho ?hn ?hr ?_; (case ho => rfl); (case hg => rfl); (case hn => rfl); (case hr => first | (go_simp; done) | (go_simp; rfl)); intro w9 hw3; have hg7 : w9.heap[gr]? = some (.cells #[.string (strOfNums (crashD d x.n).b), .slice A6 0 c6, .bool false, .int .i64 (-1), .slice L6 L.length k6, .int .i64 ((framesS L).length : Int), .bool false] 140 (0, 0)) := (by rw [hw3]; exact (blk_put (blk_put (blk_put (blk_put (blk_put (blk_put (blk_put BR6.out 0 _ rfl) 1 _ rfl) 2 _ rfl) 3 _ rfl) 4 _ rfl) 5 _ rfl) 6 _ rfl)); have hk7 : Kept w8 w9 (fun k => k = gr) := (by rw [hw3]; exact ((((((((Kept.refl w8 (fun k => k = gr)).setCell (.inl rfl) _).setCell (.inl rfl) _).setCell (.inl rfl) _).setCell (.inl rfl) _).setCell (.inl rfl) _).setCell (.inl rfl) _).setCell (.inl rfl) _)); have hs7 : w9.heap.size = w8.heap.size := (by rw [hw3]; simp only [size_set]); have hz_ := refv_put (O := (fun k => S6 k ∨ Sd k)) (PL1 := (fun k => w7.heap.size ≤ k)) (d' := crashD d x.n) (v' := ⟨L, ((framesS L).length : Int), false⟩) HG5.out HO5.out HGO.out HGL.out HK6.out HR6.out HV6.out HPL.out HA6.out hg7 hk7 hs7; have ZR := Aside0.mk hz_.1; have ZK := Aside0.mk hz_.2; have ZB := Aside0.mk (show Below w.heap.size w w9 by rw [hw3]; exact (((((((HB6.out.setCell (p := ⟨gr, 0, none⟩) HGE.out _).setCell (p := ⟨gr, 1, none⟩) HGE.out _).setCell (p := ⟨gr, 2, none⟩) HGE.out _).setCell (p := ⟨gr, 3, none⟩) HGE.out _).setCell (p := ⟨gr, 4, none⟩) HGE.out _).setCell (p := ⟨gr, 5, none⟩) HGE.out _).setCell (p := ⟨gr, 6, none⟩) HGE.out _)); clear hw3 hg7 hk7 hs7 hz_ hy0 hz0 hy1 hz1 hy2 hz2 hy3 hz3 hy4 hz4 hy5 hz5 hy6 hz6)
          have hzh := H6.out.kept ZK.out (fun k hk e => e.elim (fun e => (HG5.out k e.symm).1 hk) (fun e => HGO.out (e ▸ hk)))
          have hzr := ZR.out
          have hzi := HI5.out
          have hzl := HCL.out
          obtain ⟨vz, hvz⟩ : ∃ vz : V, vz = ⟨L, ((framesS L).length : Int), false⟩ := ⟨_, rfl⟩
          obtain ⟨dz, hdz⟩ : ∃ dz, dz = crashD d x.n := ⟨_, rfl⟩
          rw [← hvz, ← hdz] at hzh hzr hzi
          rw [← hdz] at hzl
          clear ZR HI5 HCL
          have ZH := Aside0.mk hzh
          have ZR := Aside0.mk hzr
          have ZI := Aside0.mk hzi
          have ZL := Aside0.mk hzl
          clear hzh hzr hzi hzl hvz hdz HG2 HG3 HG4 HWR HA6 HR6 HV6 HK6 BR6 BRR HR5 H6 HB5 HB6
          obtain ⟨vr, vl, arm, hg1, hg2, hg4, hg3, hg5⟩ := ZR.out.at_
          obtain ⟨Al, cl, hvl⟩ := Kd.V_slice hg4
          subst hvl
          have hy4 : w9.cell? ⟨gr, 4, none⟩ = some (.slice Al vz.l.length cl) := (blk_cell hg1 4).trans rfl
          have hy5 : w9.cell? ⟨gr, 5, none⟩ = some (.int .i64 vz.en) := (blk_cell hg1 5).trans rfl
          have HV := Aside0.mk hg4
          have BG := Aside0.mk hg1
          have hct := ZI.out.count
          have HVD := Aside0.mk (show Datas vz.l by rw [ZI.out.vl]; exact datas_append ZI.out.ds ZI.out.dt)
          have HVR := Aside0.mk (show Rights vz.l by rw [ZI.out.vl]; exact rights_append ZI.out.rs ZI.out.rt)
          have HVN := Aside0.mk (show vz.l.length ≤ 20000 by rw [ZI.out.vl, List.length_append]; exact hct)
          clear hg1 hg2 hg3 hg4 hg5 hct
          go_wp2_with fail
          refine start_ (n := 24) (S := fun w' => w'.cell? ⟨gr, 4, none⟩ = some (.slice Al vz.l.length cl) ∧ w'.cell? ⟨gr, 5, none⟩ = some (.int .i64 vz.en)) (ds := []) #[f_,f_,f_,f_,f_,f_,f_,f_,f_,f_,f_,f_,f_,f_,f_,f_,f_,f_,f_,f_,f_,f_,f_,f_] (by kernel_rfl) rfl rfl ⟨hy4, hy5⟩ (fun hHeld => ?_); refine with_tabW pl35.tab pl35.bits (fun HT_ HW_ => ?_)
          have YH := Aside0.mk (ZH.out.below (below_drew (Below.refl _ _))); have YR := Aside0.mk (ZR.out.below (below_drew (Below.refl _ _))); have YB := Aside0.mk (below_drew1 ZB.out); have YV := Aside0.mk (Kd.V_drew HV.out); have YG := Aside0.mk (blk_drew BG.out); clear ZH ZR ZB HV BG hy4 hy5; generalize w9.drew = wy at YH YR YB YV YG hHeld ⊢
          refine pure_ (i := 0) (N := some 113) (v := ?_) (a' := ?_) #[t_,f_,f_,f_,f_,f_,f_,f_,f_,f_,f_,f_,f_,f_,f_,f_,f_,f_,f_,f_,f_,f_,f_,f_] rfl rfl (any_of HT_.out (by kernel_rfl)) (fun _ _ _ h => h) (Or.inl ⟨by rfl, ?_⟩) ?_ ?_
          rotate_left
          ·intro w'
           go_simp
           with_reducible rfl
          rotate_left
          ·simp only [Act.put, sA, sZ, sS, i64_w, i32_w]
           rfl
          refine pure_ (i := 1) (N := some 114) (v := ?_) (a' := ?_) #[t_,t_,f_,f_,f_,f_,f_,f_,f_,f_,f_,f_,f_,f_,f_,f_,f_,f_,f_,f_,f_,f_,f_,f_] rfl rfl (any_of HT_.out (by kernel_rfl)) (fun _ _ _ h => h) (Or.inl ⟨by rfl, ?_⟩) ?_ ?_
          rotate_left
          ·intro w'
           go_simp
           with_reducible rfl
          rotate_left
          ·simp only [Act.put, sA, sZ, sS, i64_w, i32_w]
           rfl
          refine pure_ (i := 2) (N := some 115) (v := ?_) (a' := ?_) #[t_,t_,t_,f_,f_,f_,f_,f_,f_,f_,f_,f_,f_,f_,f_,f_,f_,f_,f_,f_,f_,f_,f_,f_] rfl rfl (any_of HT_.out (by kernel_rfl)) (fun _ _ _ h => h) (Or.inl ⟨by rfl, ?_⟩) ?_ ?_
          rotate_left
          ·intro w'
           go_simp
           with_reducible rfl
          rotate_left
          ·simp only [Act.put, sA, sZ, sS, i64_w, i32_w]
           rfl
          refine pure_ (i := 3) (N := some 116) (v := ?_) (a' := ?_) #[t_,t_,t_,t_,f_,f_,f_,f_,f_,f_,f_,f_,f_,f_,f_,f_,f_,f_,f_,f_,f_,f_,f_,f_] rfl rfl (any_of HT_.out (by kernel_rfl)) (fun _ _ _ h => h) (Or.inl ⟨by rfl, ?_⟩) ?_ ?_
          rotate_left
          ·intro w'
           go_simp
           with_reducible rfl
          rotate_left
          ·simp only [Act.put, sA, sZ, sS, i64_w, i32_w]
           rfl
          refine pure_ (i := 4) (N := some 117) (v := ?_) (a' := ?_) #[t_,t_,t_,t_,t_,f_,f_,f_,f_,f_,f_,f_,f_,f_,f_,f_,f_,f_,f_,f_,f_,f_,f_,f_] rfl rfl (any_of HT_.out (by kernel_rfl)) (fun _ _ _ h => h) (Or.inl ⟨by rfl, ?_⟩) ?_ ?_
          rotate_left
          ·intro w'
           go_simp
           with_reducible rfl
          rotate_left
          ·simp only [Act.put, sA, sZ, sS, i64_w, i32_w]
           rfl
          refine pure_ (i := 5) (N := some 118) (v := ?_) (a' := ?_) #[t_,t_,t_,t_,t_,t_,f_,f_,f_,f_,f_,f_,f_,f_,f_,f_,f_,f_,f_,f_,f_,f_,f_,f_] rfl rfl (any_of HT_.out (by kernel_rfl)) (fun _ _ _ h => h) (Or.inl ⟨by rfl, ?_⟩) ?_ ?_
          rotate_left
          ·intro w'
           go_simp
           with_reducible rfl
          rotate_left
          ·simp only [Act.put, sA, sZ, sS, i64_w, i32_w]
           rfl
          refine pure_ (i := 6) (N := some 119) (v := ?_) (a' := ?_) #[t_,t_,t_,t_,t_,t_,t_,f_,f_,f_,f_,f_,f_,f_,f_,f_,f_,f_,f_,f_,f_,f_,f_,f_] rfl rfl (any_of HT_.out (by kernel_rfl)) (fun _ _ _ h => h) (Or.inl ⟨by rfl, ?_⟩) ?_ ?_
          rotate_left
          ·intro w'
           go_simp
           with_reducible rfl
          rotate_left
          ·simp only [Act.put, sA, sZ, sS, i64_w, i32_w]
           rfl
          refine pure_ (i := 7) (N := some 120) (v := ?_) (a' := ?_) #[t_,t_,t_,t_,t_,t_,t_,t_,f_,f_,f_,f_,f_,f_,f_,f_,f_,f_,f_,f_,f_,f_,f_,f_] rfl rfl (any_of HT_.out (by kernel_rfl)) (fun _ _ _ h => h) (Or.inl ⟨by rfl, ?_⟩) ?_ ?_
          rotate_left
          ·intro w'
           go_simp
           with_reducible rfl
          rotate_left
          ·simp only [Act.put, sA, sZ, sS, i64_w, i32_w]
           rfl
          refine pure_ (i := 8) (N := some 121) (v := ?_) (a' := ?_) #[t_,t_,t_,t_,t_,t_,t_,t_,t_,f_,f_,f_,f_,f_,f_,f_,f_,f_,f_,f_,f_,f_,f_,f_] rfl rfl (any_of HT_.out (by kernel_rfl)) (fun _ _ _ h => h) (Or.inl ⟨by rfl, ?_⟩) ?_ ?_
          rotate_left
          ·intro w'
           go_simp
           with_reducible rfl
          rotate_left
          ·simp only [Act.put, sA, sZ, sS, i64_w, i32_w]
           rfl
          refine pure_ (i := 10) (N := some 123) (v := ?_) (a' := ?_) #[t_,t_,t_,t_,t_,t_,t_,t_,t_,f_,t_,f_,f_,f_,f_,f_,f_,f_,f_,f_,f_,f_,f_,f_] rfl rfl (any_of HT_.out (by kernel_rfl)) (fun _ _ _ h => h) (Or.inl ⟨by rfl, ?_⟩) ?_ ?_
          rotate_left
          ·intro w'
           go_simp
           with_reducible rfl
          rotate_left
          ·simp only [Act.put, sA, sZ, sS, i64_w, i32_w]
           rfl
          refine take_ (i := 11) (N := some 124) (v := ?_) (a' := ?_) #[t_,t_,t_,t_,t_,t_,t_,t_,t_,f_,t_,t_,f_,f_,f_,f_,f_,f_,f_,f_,f_,f_,f_,f_] rfl rfl (take_ofW HT_.out HW_.out (by kernel_rfl)) (fun _ _ _ h => h) (Or.inl ⟨by rfl, ?_⟩) hHeld ?_ ?_
          rotate_left
          ·rintro w' ⟨s0, s1⟩
           go_simp
           with_reducible rfl
          rotate_left
          ·simp only [Act.put, sA, sZ, sS, i64_w, i32_w]
           rfl
          refine one_ (i := 9) (N := some 122) #[t_,t_,t_,t_,t_,t_,t_,t_,t_,t_,t_,t_,f_,f_,f_,f_,f_,f_,f_,f_,f_,f_,f_,f_] rfl rfl (one_of HT_.out (by kernel_rfl)) (by decide) (fun K hK => ?_)
          refine goes_ Try.func67 (by kernel_rfl) rfl #[.pointer (some ⟨g6, 0, none⟩)] (by rfl) rfl rfl (by (try simp only [List.map_toArray, List.map_cons, List.map_nil]); first | done | rfl) ?_
          refine (entries_calls YH.out.vlt (by have := HVN.out; omega) (fun y hy => (HVR.out y hy).2.2)).mono ?_
          rintro e wx ⟨ux, rfl, hux, hbx⟩
          refine ⟨_, rfl, ?_⟩
          obtain ⟨Ax, cx, hux'⟩ := Kd.S_slice hux
          subst hux'
          have XU := Aside0.mk hux
          have XL := Aside0.mk hbx
          have XG := blk_below YG.out hbx
          clear hux hbx
          refine hK.out _ _ ⟨(blk_cell XG 4).trans rfl, (blk_cell XG 5).trans rfl⟩ (fun hHeld => ?_)
          clear hK K
          refine norm_ (a' := ?_) ?_ ?_
          rotate_left
          ·show Act.put _ (some 122) _ = _
           simp only [Act.put, sA, sZ, sS, i64_w, i32_w]
           rfl
          clear XG
          refine one_ (i := 12) (N := some 125) #[t_,t_,t_,t_,t_,t_,t_,t_,t_,t_,t_,t_,t_,f_,f_,f_,f_,f_,f_,f_,f_,f_,f_,f_] rfl rfl (one_of HT_.out (by kernel_rfl)) (by decide) (fun K hK => ?_)
          refine goes_ Try.func68 (by kernel_rfl) rfl #[.slice Ax vz.l.length cx, .slice Al vz.l.length cl] (by rfl) rfl rfl (by (try simp only [List.map_toArray, List.map_cons, List.map_nil]); first | done | rfl) ?_
          obtain ⟨ks, hks⟩ : ∃ ks, vz.l.length + 2 ≤ ks := ⟨_, Nat.le_refl _⟩
          refine (horariumref47_Same.calls ks Ax cx vz.l Al cl vz.l true _ (Kd.S_reads' XU.out).2.2 (Kd.S_reads' XU.out).2.1 (Kd.V_reads' (Kd.V_below YV.out XL.out)).2.2 (Kd.V_reads' (Kd.V_below YV.out XL.out)).2.1 ((rsame_eq ks vz.l vz.l HVD.out HVD.out (by have := HVN.out; omega) hks).trans (congrArg some (decide_eq_true rfl)))).mono ?_
          rintro e wv ⟨rfl, hdv⟩
          refine ⟨_, rfl, ?_⟩
          have VL := Aside0.mk (below_step XL.out hdv.below)
          have VG := blk_below YG.out VL.out
          have VH := Aside0.mk (YH.out.below VL.out)
          clear hdv hks
          refine hK.out _ _ ⟨(blk_cell VG 4).trans rfl, (blk_cell VG 5).trans rfl⟩ (fun hHeld => ?_)
          clear hK K
          refine norm_ (a' := ?_) ?_ ?_
          rotate_left
          ·show Act.put _ (some 125) _ = _
           simp only [Act.put, sA, sZ, sS, i64_w, i32_w]
           rfl
          clear VG
          refine pure_ (i := 13) (N := some 126) (v := ?_) (a' := ?_) #[t_,t_,t_,t_,t_,t_,t_,t_,t_,t_,t_,t_,t_,t_,f_,f_,f_,f_,f_,f_,f_,f_,f_,f_] rfl rfl (any_of HT_.out (by kernel_rfl)) (fun _ _ _ h => h) (Or.inl ⟨by rfl, ?_⟩) ?_ ?_
          rotate_left
          ·intro w'
           go_simp
           with_reducible rfl
          rotate_left
          ·simp only [Act.put, sA, sZ, sS, i64_w, i32_w]
           rfl
          refine pure_ (i := 14) (N := some 127) (v := ?_) (a' := ?_) #[t_,t_,t_,t_,t_,t_,t_,t_,t_,t_,t_,t_,t_,t_,t_,f_,f_,f_,f_,f_,f_,f_,f_,f_] rfl rfl (any_of HT_.out (by kernel_rfl)) (fun _ _ _ h => h) (Or.inl ⟨by rfl, ?_⟩) ?_ ?_
          rotate_left
          ·intro w'
           go_simp
           with_reducible rfl
          rotate_left
          ·simp only [Act.put, sA, sZ, sS, i64_w, i32_w]
           rfl
          refine pure_ (i := 15) (N := some 128) (v := ?_) (a' := ?_) #[t_,t_,t_,t_,t_,t_,t_,t_,t_,t_,t_,t_,t_,t_,t_,t_,f_,f_,f_,f_,f_,f_,f_,f_] rfl rfl (any_of HT_.out (by kernel_rfl)) (fun _ _ _ h => h) (Or.inl ⟨by rfl, ?_⟩) ?_ ?_
          rotate_left
          ·intro w'
           go_simp
           with_reducible rfl
          rotate_left
          ·simp only [Act.put, sA, sZ, sS, i64_w, i32_w]
           rfl
          refine pure_ (i := 16) (N := some 129) (v := ?_) (a' := ?_) #[t_,t_,t_,t_,t_,t_,t_,t_,t_,t_,t_,t_,t_,t_,t_,t_,t_,f_,f_,f_,f_,f_,f_,f_] rfl rfl (any_of HT_.out (by kernel_rfl)) (fun _ _ _ h => h) (Or.inl ⟨by rfl, ?_⟩) ?_ ?_
          rotate_left
          ·intro w'
           go_simp
           with_reducible rfl
          rotate_left
          ·simp only [Act.put, sA, sZ, sS, i64_w, i32_w]
           rfl
          refine pure_ (i := 18) (N := some 131) (v := ?_) (a' := ?_) #[t_,t_,t_,t_,t_,t_,t_,t_,t_,t_,t_,t_,t_,t_,t_,t_,t_,f_,t_,f_,f_,f_,f_,f_] rfl rfl (any_of HT_.out (by kernel_rfl)) (fun _ _ _ h => h) (Or.inl ⟨by rfl, ?_⟩) ?_ ?_
          rotate_left
          ·intro w'
           go_simp
           with_reducible rfl
          rotate_left
          ·simp only [Act.put, sA, sZ, sS, i64_w, i32_w]
           rfl
          refine pure_ (i := 19) (N := some 132) (v := ?_) (a' := ?_) #[t_,t_,t_,t_,t_,t_,t_,t_,t_,t_,t_,t_,t_,t_,t_,t_,t_,f_,t_,t_,f_,f_,f_,f_] rfl rfl (any_of HT_.out (by kernel_rfl)) (fun _ _ _ h => h) (Or.inl ⟨by rfl, ?_⟩) ?_ ?_
          rotate_left
          ·intro w'
           go_simp
           with_reducible rfl
          rotate_left
          ·simp only [Act.put, sA, sZ, sS, i64_w, i32_w]
           rfl
          refine take_ (i := 20) (N := some 133) (v := ?_) (a' := ?_) #[t_,t_,t_,t_,t_,t_,t_,t_,t_,t_,t_,t_,t_,t_,t_,t_,t_,f_,t_,t_,t_,f_,f_,f_] rfl rfl (take_ofW HT_.out HW_.out (by kernel_rfl)) (fun _ _ _ h => h) (Or.inl ⟨by rfl, ?_⟩) hHeld ?_ ?_
          rotate_left
          ·rintro w' ⟨s0, s1⟩
           go_simp
           with_reducible rfl
          rotate_left
          ·simp only [Act.put, sA, sZ, sS, i64_w, i32_w]
           rfl
          refine pure_ (i := 21) (N := some 134) (v := ?_) (a' := ?_) #[t_,t_,t_,t_,t_,t_,t_,t_,t_,t_,t_,t_,t_,t_,t_,t_,t_,f_,t_,t_,t_,t_,f_,f_] rfl rfl (any_of HT_.out (by kernel_rfl)) (fun _ _ _ h => h) (Or.inl ⟨by rfl, ?_⟩) ?_ ?_
          rotate_left
          ·intro w'
           go_simp
           with_reducible rfl
          rotate_left
          ·simp only [Act.put, sA, sZ, sS, i64_w, i32_w]
           rfl
          refine one_ (i := 17) (N := some 130) #[t_,t_,t_,t_,t_,t_,t_,t_,t_,t_,t_,t_,t_,t_,t_,t_,t_,t_,t_,t_,t_,t_,f_,f_] rfl rfl (one_of HT_.out (by kernel_rfl)) (by decide) (fun K hK => ?_)
          refine goes_ Try.func113 (by kernel_rfl) rfl #[.pointer (some ⟨g6, 0, none⟩)] (by rfl) rfl rfl (by (try simp only [List.map_toArray, List.map_cons, List.map_nil]); first | done | rfl) ?_
          refine (room_calls VH.out.dev VH.out.vlt).mono ?_
          rintro e wu ⟨rfl, hbu⟩
          refine ⟨_, rfl, ?_⟩
          rw [ZL.out]
          have UL := Aside0.mk (below_step VL.out hbu)
          have UG := blk_below YG.out UL.out
          clear hbu
          refine hK.out _ _ ⟨(blk_cell UG 4).trans rfl, (blk_cell UG 5).trans rfl⟩ (fun hHeld => ?_)
          clear hK K
          refine norm_ (a' := ?_) ?_ ?_
          rotate_left
          ·show Act.put _ (some 130) _ = _
           simp only [Act.put, sA, sZ, sS, i64_w, i32_w]
           rfl
          clear UG
          refine pure_ (i := 22) (N := some 135) (v := ?_) (a' := ?_) #[t_,t_,t_,t_,t_,t_,t_,t_,t_,t_,t_,t_,t_,t_,t_,t_,t_,t_,t_,t_,t_,t_,t_,f_] rfl rfl (any_of HT_.out (by kernel_rfl)) (fun _ _ _ h => h) (Or.inl ⟨by rfl, ?_⟩) ?_ ?_
          rotate_left
          ·intro w'
           go_simp
           with_reducible rfl
          rotate_left
          ·simp only [Act.put, sA, sZ, sS, i64_w, i32_w]
           rfl
          refine pure_ (i := 23) (N := some 136) (v := ?_) (a' := ?_) #[t_,t_,t_,t_,t_,t_,t_,t_,t_,t_,t_,t_,t_,t_,t_,t_,t_,t_,t_,t_,t_,t_,t_,t_] rfl rfl (any_of HT_.out (by kernel_rfl)) (fun _ _ _ h => h) (Or.inl ⟨by rfl, ?_⟩) ?_ ?_
          rotate_left
          ·intro w'
           go_simp
           with_reducible rfl
          rotate_left
          ·simp only [Act.put, sA, sZ, sS, i64_w, i32_w]
           rfl
          refine done_ (done_of HT_.out (by kernel_rfl)) ?_
          have UH := Aside0.mk (YH.out.below UL.out)
          have UR := Aside0.mk (YR.out.below UL.out)
          have UB := Aside0.mk (below_step YB.out UL.out)
          go_wp2_with fail
          go_roundg k1
          case measure => omega
          case rel => exact ⟨i + 1, g6, Sd, S6, _, dz, vz, L, [], rfl, (by have h_ : wrap64 ((i : Int) + 1) = ((i + 1 : Nat) : Int) := (by have := hi2.out; unfold wrap64; omega); rw [h_]), ⟨by have := HK.out; omega⟩, UH, ZI, UR, ZL, ZS, UB⟩
         ·have e5 : (x.k == 5) = false := beq_eq_false_iff_ne.mpr k5
          clear k5 hc1 hc2 hc3
          have ZH := HH4
          have ZR := Aside0.mk HR4.out.more
          have ZI := HI
          have ZL := HL
          have ZS := HS
          have ZB := HB4
          clear HH4 HR4 HB4
          obtain ⟨vr, vl, arm, hg1, hg2, hg4, hg3, hg5⟩ := ZR.out.at_
          obtain ⟨Al, cl, hvl⟩ := Kd.V_slice hg4
          subst hvl
          have hy4 : w4.cell? ⟨gr, 4, none⟩ = some (.slice Al v.l.length cl) := (blk_cell hg1 4).trans rfl
          have hy5 : w4.cell? ⟨gr, 5, none⟩ = some (.int .i64 v.en) := (blk_cell hg1 5).trans rfl
          have HV := Aside0.mk hg4
          have BG := Aside0.mk hg1
          have hct := ZI.out.count
          have HVD := Aside0.mk (show Datas v.l by rw [ZI.out.vl]; exact datas_append ZI.out.ds ZI.out.dt)
          have HVR := Aside0.mk (show Rights v.l by rw [ZI.out.vl]; exact rights_append ZI.out.rs ZI.out.rt)
          have HVN := Aside0.mk (show v.l.length ≤ 20000 by rw [ZI.out.vl, List.length_append]; exact hct)
          clear hg1 hg2 hg3 hg4 hg5 hct
          go_wp2_with fail
          refine start_ (n := 24) (S := fun w' => w'.cell? ⟨gr, 4, none⟩ = some (.slice Al v.l.length cl) ∧ w'.cell? ⟨gr, 5, none⟩ = some (.int .i64 v.en)) (ds := []) #[f_,f_,f_,f_,f_,f_,f_,f_,f_,f_,f_,f_,f_,f_,f_,f_,f_,f_,f_,f_,f_,f_,f_,f_] (by kernel_rfl) rfl rfl ⟨hy4, hy5⟩ (fun hHeld => ?_); refine with_tabW pl35.tab pl35.bits (fun HT_ HW_ => ?_)
          have YH := Aside0.mk (ZH.out.below (below_drew (Below.refl _ _))); have YR := Aside0.mk (ZR.out.below (below_drew (Below.refl _ _))); have YB := Aside0.mk (below_drew1 ZB.out); have YV := Aside0.mk (Kd.V_drew HV.out); have YG := Aside0.mk (blk_drew BG.out); clear ZH ZR ZB HV BG hy4 hy5; generalize w4.drew = wy at YH YR YB YV YG hHeld ⊢
          refine pure_ (i := 0) (N := some 113) (v := ?_) (a' := ?_) #[t_,f_,f_,f_,f_,f_,f_,f_,f_,f_,f_,f_,f_,f_,f_,f_,f_,f_,f_,f_,f_,f_,f_,f_] rfl rfl (any_of HT_.out (by kernel_rfl)) (fun _ _ _ h => h) (Or.inl ⟨by rfl, ?_⟩) ?_ ?_
          rotate_left
          ·intro w'
           go_simp
           with_reducible rfl
          rotate_left
          ·simp only [Act.put, sA, sZ, sS, i64_w, i32_w]
           rfl
          refine pure_ (i := 1) (N := some 114) (v := ?_) (a' := ?_) #[t_,t_,f_,f_,f_,f_,f_,f_,f_,f_,f_,f_,f_,f_,f_,f_,f_,f_,f_,f_,f_,f_,f_,f_] rfl rfl (any_of HT_.out (by kernel_rfl)) (fun _ _ _ h => h) (Or.inl ⟨by rfl, ?_⟩) ?_ ?_
          rotate_left
          ·intro w'
           go_simp
           with_reducible rfl
          rotate_left
          ·simp only [Act.put, sA, sZ, sS, i64_w, i32_w]
           rfl
          refine pure_ (i := 2) (N := some 115) (v := ?_) (a' := ?_) #[t_,t_,t_,f_,f_,f_,f_,f_,f_,f_,f_,f_,f_,f_,f_,f_,f_,f_,f_,f_,f_,f_,f_,f_] rfl rfl (any_of HT_.out (by kernel_rfl)) (fun _ _ _ h => h) (Or.inl ⟨by rfl, ?_⟩) ?_ ?_
          rotate_left
          ·intro w'
           go_simp
           with_reducible rfl
          rotate_left
          ·simp only [Act.put, sA, sZ, sS, i64_w, i32_w]
           rfl
          refine pure_ (i := 3) (N := some 116) (v := ?_) (a' := ?_) #[t_,t_,t_,t_,f_,f_,f_,f_,f_,f_,f_,f_,f_,f_,f_,f_,f_,f_,f_,f_,f_,f_,f_,f_] rfl rfl (any_of HT_.out (by kernel_rfl)) (fun _ _ _ h => h) (Or.inl ⟨by rfl, ?_⟩) ?_ ?_
          rotate_left
          ·intro w'
           go_simp
           with_reducible rfl
          rotate_left
          ·simp only [Act.put, sA, sZ, sS, i64_w, i32_w]
           rfl
          refine pure_ (i := 4) (N := some 117) (v := ?_) (a' := ?_) #[t_,t_,t_,t_,t_,f_,f_,f_,f_,f_,f_,f_,f_,f_,f_,f_,f_,f_,f_,f_,f_,f_,f_,f_] rfl rfl (any_of HT_.out (by kernel_rfl)) (fun _ _ _ h => h) (Or.inl ⟨by rfl, ?_⟩) ?_ ?_
          rotate_left
          ·intro w'
           go_simp
           with_reducible rfl
          rotate_left
          ·simp only [Act.put, sA, sZ, sS, i64_w, i32_w]
           rfl
          refine pure_ (i := 5) (N := some 118) (v := ?_) (a' := ?_) #[t_,t_,t_,t_,t_,t_,f_,f_,f_,f_,f_,f_,f_,f_,f_,f_,f_,f_,f_,f_,f_,f_,f_,f_] rfl rfl (any_of HT_.out (by kernel_rfl)) (fun _ _ _ h => h) (Or.inl ⟨by rfl, ?_⟩) ?_ ?_
          rotate_left
          ·intro w'
           go_simp
           with_reducible rfl
          rotate_left
          ·simp only [Act.put, sA, sZ, sS, i64_w, i32_w]
           rfl
          refine pure_ (i := 6) (N := some 119) (v := ?_) (a' := ?_) #[t_,t_,t_,t_,t_,t_,t_,f_,f_,f_,f_,f_,f_,f_,f_,f_,f_,f_,f_,f_,f_,f_,f_,f_] rfl rfl (any_of HT_.out (by kernel_rfl)) (fun _ _ _ h => h) (Or.inl ⟨by rfl, ?_⟩) ?_ ?_
          rotate_left
          ·intro w'
           go_simp
           with_reducible rfl
          rotate_left
          ·simp only [Act.put, sA, sZ, sS, i64_w, i32_w]
           rfl
          refine pure_ (i := 7) (N := some 120) (v := ?_) (a' := ?_) #[t_,t_,t_,t_,t_,t_,t_,t_,f_,f_,f_,f_,f_,f_,f_,f_,f_,f_,f_,f_,f_,f_,f_,f_] rfl rfl (any_of HT_.out (by kernel_rfl)) (fun _ _ _ h => h) (Or.inl ⟨by rfl, ?_⟩) ?_ ?_
          rotate_left
          ·intro w'
           go_simp
           with_reducible rfl
          rotate_left
          ·simp only [Act.put, sA, sZ, sS, i64_w, i32_w]
           rfl
          refine pure_ (i := 8) (N := some 121) (v := ?_) (a' := ?_) #[t_,t_,t_,t_,t_,t_,t_,t_,t_,f_,f_,f_,f_,f_,f_,f_,f_,f_,f_,f_,f_,f_,f_,f_] rfl rfl (any_of HT_.out (by kernel_rfl)) (fun _ _ _ h => h) (Or.inl ⟨by rfl, ?_⟩) ?_ ?_
          rotate_left
          ·intro w'
           go_simp
           with_reducible rfl
          rotate_left
          ·simp only [Act.put, sA, sZ, sS, i64_w, i32_w]
           rfl
          refine pure_ (i := 10) (N := some 123) (v := ?_) (a' := ?_) #[t_,t_,t_,t_,t_,t_,t_,t_,t_,f_,t_,f_,f_,f_,f_,f_,f_,f_,f_,f_,f_,f_,f_,f_] rfl rfl (any_of HT_.out (by kernel_rfl)) (fun _ _ _ h => h) (Or.inl ⟨by rfl, ?_⟩) ?_ ?_
          rotate_left
          ·intro w'
           go_simp
           with_reducible rfl
          rotate_left
          ·simp only [Act.put, sA, sZ, sS, i64_w, i32_w]
           rfl
          refine take_ (i := 11) (N := some 124) (v := ?_) (a' := ?_) #[t_,t_,t_,t_,t_,t_,t_,t_,t_,f_,t_,t_,f_,f_,f_,f_,f_,f_,f_,f_,f_,f_,f_,f_] rfl rfl (take_ofW HT_.out HW_.out (by kernel_rfl)) (fun _ _ _ h => h) (Or.inl ⟨by rfl, ?_⟩) hHeld ?_ ?_
          rotate_left
          ·rintro w' ⟨s0, s1⟩
           go_simp
           with_reducible rfl
          rotate_left
          ·simp only [Act.put, sA, sZ, sS, i64_w, i32_w]
           rfl
          refine one_ (i := 9) (N := some 122) #[t_,t_,t_,t_,t_,t_,t_,t_,t_,t_,t_,t_,f_,f_,f_,f_,f_,f_,f_,f_,f_,f_,f_,f_] rfl rfl (one_of HT_.out (by kernel_rfl)) (by decide) (fun K hK => ?_)
          refine goes_ Try.func67 (by kernel_rfl) rfl #[.pointer (some ⟨g, 0, none⟩)] (by rfl) rfl rfl (by (try simp only [List.map_toArray, List.map_cons, List.map_nil]); first | done | rfl) ?_
          refine (entries_calls YH.out.vlt (by have := HVN.out; omega) (fun y hy => (HVR.out y hy).2.2)).mono ?_
          rintro e wx ⟨ux, rfl, hux, hbx⟩
          refine ⟨_, rfl, ?_⟩
          obtain ⟨Ax, cx, hux'⟩ := Kd.S_slice hux
          subst hux'
          have XU := Aside0.mk hux
          have XL := Aside0.mk hbx
          have XG := blk_below YG.out hbx
          clear hux hbx
          refine hK.out _ _ ⟨(blk_cell XG 4).trans rfl, (blk_cell XG 5).trans rfl⟩ (fun hHeld => ?_)
          clear hK K
          refine norm_ (a' := ?_) ?_ ?_
          rotate_left
          ·show Act.put _ (some 122) _ = _
           simp only [Act.put, sA, sZ, sS, i64_w, i32_w]
           rfl
          clear XG
          refine one_ (i := 12) (N := some 125) #[t_,t_,t_,t_,t_,t_,t_,t_,t_,t_,t_,t_,t_,f_,f_,f_,f_,f_,f_,f_,f_,f_,f_,f_] rfl rfl (one_of HT_.out (by kernel_rfl)) (by decide) (fun K hK => ?_)
          refine goes_ Try.func68 (by kernel_rfl) rfl #[.slice Ax v.l.length cx, .slice Al v.l.length cl] (by rfl) rfl rfl (by (try simp only [List.map_toArray, List.map_cons, List.map_nil]); first | done | rfl) ?_
          obtain ⟨ks, hks⟩ : ∃ ks, v.l.length + 2 ≤ ks := ⟨_, Nat.le_refl _⟩
          refine (horariumref47_Same.calls ks Ax cx v.l Al cl v.l true _ (Kd.S_reads' XU.out).2.2 (Kd.S_reads' XU.out).2.1 (Kd.V_reads' (Kd.V_below YV.out XL.out)).2.2 (Kd.V_reads' (Kd.V_below YV.out XL.out)).2.1 ((rsame_eq ks v.l v.l HVD.out HVD.out (by have := HVN.out; omega) hks).trans (congrArg some (decide_eq_true rfl)))).mono ?_
          rintro e wv ⟨rfl, hdv⟩
          refine ⟨_, rfl, ?_⟩
          have VL := Aside0.mk (below_step XL.out hdv.below)
          have VG := blk_below YG.out VL.out
          have VH := Aside0.mk (YH.out.below VL.out)
          clear hdv hks
          refine hK.out _ _ ⟨(blk_cell VG 4).trans rfl, (blk_cell VG 5).trans rfl⟩ (fun hHeld => ?_)
          clear hK K
          refine norm_ (a' := ?_) ?_ ?_
          rotate_left
          ·show Act.put _ (some 125) _ = _
           simp only [Act.put, sA, sZ, sS, i64_w, i32_w]
           rfl
          clear VG
          refine pure_ (i := 13) (N := some 126) (v := ?_) (a' := ?_) #[t_,t_,t_,t_,t_,t_,t_,t_,t_,t_,t_,t_,t_,t_,f_,f_,f_,f_,f_,f_,f_,f_,f_,f_] rfl rfl (any_of HT_.out (by kernel_rfl)) (fun _ _ _ h => h) (Or.inl ⟨by rfl, ?_⟩) ?_ ?_
          rotate_left
          ·intro w'
           go_simp
           with_reducible rfl
          rotate_left
          ·simp only [Act.put, sA, sZ, sS, i64_w, i32_w]
           rfl
          refine pure_ (i := 14) (N := some 127) (v := ?_) (a' := ?_) #[t_,t_,t_,t_,t_,t_,t_,t_,t_,t_,t_,t_,t_,t_,t_,f_,f_,f_,f_,f_,f_,f_,f_,f_] rfl rfl (any_of HT_.out (by kernel_rfl)) (fun _ _ _ h => h) (Or.inl ⟨by rfl, ?_⟩) ?_ ?_
          rotate_left
          ·intro w'
           go_simp
           with_reducible rfl
          rotate_left
          ·simp only [Act.put, sA, sZ, sS, i64_w, i32_w]
           rfl
          refine pure_ (i := 15) (N := some 128) (v := ?_) (a' := ?_) #[t_,t_,t_,t_,t_,t_,t_,t_,t_,t_,t_,t_,t_,t_,t_,t_,f_,f_,f_,f_,f_,f_,f_,f_] rfl rfl (any_of HT_.out (by kernel_rfl)) (fun _ _ _ h => h) (Or.inl ⟨by rfl, ?_⟩) ?_ ?_
          rotate_left
          ·intro w'
           go_simp
           with_reducible rfl
          rotate_left
          ·simp only [Act.put, sA, sZ, sS, i64_w, i32_w]
           rfl
          refine pure_ (i := 16) (N := some 129) (v := ?_) (a' := ?_) #[t_,t_,t_,t_,t_,t_,t_,t_,t_,t_,t_,t_,t_,t_,t_,t_,t_,f_,f_,f_,f_,f_,f_,f_] rfl rfl (any_of HT_.out (by kernel_rfl)) (fun _ _ _ h => h) (Or.inl ⟨by rfl, ?_⟩) ?_ ?_
          rotate_left
          ·intro w'
           go_simp
           with_reducible rfl
          rotate_left
          ·simp only [Act.put, sA, sZ, sS, i64_w, i32_w]
           rfl
          refine pure_ (i := 18) (N := some 131) (v := ?_) (a' := ?_) #[t_,t_,t_,t_,t_,t_,t_,t_,t_,t_,t_,t_,t_,t_,t_,t_,t_,f_,t_,f_,f_,f_,f_,f_] rfl rfl (any_of HT_.out (by kernel_rfl)) (fun _ _ _ h => h) (Or.inl ⟨by rfl, ?_⟩) ?_ ?_
          rotate_left
          ·intro w'
           go_simp
           with_reducible rfl
          rotate_left
          ·simp only [Act.put, sA, sZ, sS, i64_w, i32_w]
           rfl
          refine pure_ (i := 19) (N := some 132) (v := ?_) (a' := ?_) #[t_,t_,t_,t_,t_,t_,t_,t_,t_,t_,t_,t_,t_,t_,t_,t_,t_,f_,t_,t_,f_,f_,f_,f_] rfl rfl (any_of HT_.out (by kernel_rfl)) (fun _ _ _ h => h) (Or.inl ⟨by rfl, ?_⟩) ?_ ?_
          rotate_left
          ·intro w'
           go_simp
           with_reducible rfl
          rotate_left
          ·simp only [Act.put, sA, sZ, sS, i64_w, i32_w]
           rfl
          refine take_ (i := 20) (N := some 133) (v := ?_) (a' := ?_) #[t_,t_,t_,t_,t_,t_,t_,t_,t_,t_,t_,t_,t_,t_,t_,t_,t_,f_,t_,t_,t_,f_,f_,f_] rfl rfl (take_ofW HT_.out HW_.out (by kernel_rfl)) (fun _ _ _ h => h) (Or.inl ⟨by rfl, ?_⟩) hHeld ?_ ?_
          rotate_left
          ·rintro w' ⟨s0, s1⟩
           go_simp
           with_reducible rfl
          rotate_left
          ·simp only [Act.put, sA, sZ, sS, i64_w, i32_w]
           rfl
          refine pure_ (i := 21) (N := some 134) (v := ?_) (a' := ?_) #[t_,t_,t_,t_,t_,t_,t_,t_,t_,t_,t_,t_,t_,t_,t_,t_,t_,f_,t_,t_,t_,t_,f_,f_] rfl rfl (any_of HT_.out (by kernel_rfl)) (fun _ _ _ h => h) (Or.inl ⟨by rfl, ?_⟩) ?_ ?_
          rotate_left
          ·intro w'
           go_simp
           with_reducible rfl
          rotate_left
          ·simp only [Act.put, sA, sZ, sS, i64_w, i32_w]
           rfl
          refine one_ (i := 17) (N := some 130) #[t_,t_,t_,t_,t_,t_,t_,t_,t_,t_,t_,t_,t_,t_,t_,t_,t_,t_,t_,t_,t_,t_,f_,f_] rfl rfl (one_of HT_.out (by kernel_rfl)) (by decide) (fun K hK => ?_)
          refine goes_ Try.func113 (by kernel_rfl) rfl #[.pointer (some ⟨g, 0, none⟩)] (by rfl) rfl rfl (by (try simp only [List.map_toArray, List.map_cons, List.map_nil]); first | done | rfl) ?_
          refine (room_calls VH.out.dev VH.out.vlt).mono ?_
          rintro e wu ⟨rfl, hbu⟩
          refine ⟨_, rfl, ?_⟩
          rw [ZL.out]
          have UL := Aside0.mk (below_step VL.out hbu)
          have UG := blk_below YG.out UL.out
          clear hbu
          refine hK.out _ _ ⟨(blk_cell UG 4).trans rfl, (blk_cell UG 5).trans rfl⟩ (fun hHeld => ?_)
          clear hK K
          refine norm_ (a' := ?_) ?_ ?_
          rotate_left
          ·show Act.put _ (some 130) _ = _
           simp only [Act.put, sA, sZ, sS, i64_w, i32_w]
           rfl
          clear UG
          refine pure_ (i := 22) (N := some 135) (v := ?_) (a' := ?_) #[t_,t_,t_,t_,t_,t_,t_,t_,t_,t_,t_,t_,t_,t_,t_,t_,t_,t_,t_,t_,t_,t_,t_,f_] rfl rfl (any_of HT_.out (by kernel_rfl)) (fun _ _ _ h => h) (Or.inl ⟨by rfl, ?_⟩) ?_ ?_
          rotate_left
          ·intro w'
           go_simp
           with_reducible rfl
          rotate_left
          ·simp only [Act.put, sA, sZ, sS, i64_w, i32_w]
           rfl
          refine pure_ (i := 23) (N := some 136) (v := ?_) (a' := ?_) #[t_,t_,t_,t_,t_,t_,t_,t_,t_,t_,t_,t_,t_,t_,t_,t_,t_,t_,t_,t_,t_,t_,t_,t_] rfl rfl (any_of HT_.out (by kernel_rfl)) (fun _ _ _ h => h) (Or.inl ⟨by rfl, ?_⟩) ?_ ?_
          rotate_left
          ·intro w'
           go_simp
           with_reducible rfl
          rotate_left
          ·simp only [Act.put, sA, sZ, sS, i64_w, i32_w]
           rfl
          refine done_ (done_of HT_.out (by kernel_rfl)) ?_
          have UH := Aside0.mk (YH.out.below UL.out)
          have UR := Aside0.mk (YR.out.below UL.out)
          have UB := Aside0.mk (below_step YB.out UL.out)
          go_wp2_with fail
          go_roundg k1
          case measure => omega
          case rel => exact ⟨i + 1, g, Sd, S, PL, d, v, s, t, rfl, (by have h_ : wrap64 ((i : Int) + 1) = ((i + 1 : Nat) : Int) := (by have := hi2.out; unfold wrap64; omega); rw [h_]), ⟨by have := HK.out; omega⟩, UH, ZI, UR, ZL, ZS, UB⟩
end Go.Proofs.Ytccjdefhieilpaa.VT
