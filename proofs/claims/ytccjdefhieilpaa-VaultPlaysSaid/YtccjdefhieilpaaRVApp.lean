/-
 What the law VaultPlays needs of VApp (what it does not use is left out by a program of this session, wip/tools/dce.py).
-/
import Derived.Test.YtccjdefhieilpaaRVRefD
import Derived.Test.YtccjdefhieilpaaRLogRefB
namespace Go.Proofs.Ytccjdefhieilpaa.VT
open Go.RowKit Go.Proofs.YtccjdefhieilpaaW.PrintWords Go.Proofs.YtccjdefhieilpaaW.PrintLast Go.Proofs.YtccjdefhieilpaaW.PrintMore Go.Proofs.Ytccjdefhieilpaa.PB Go.Proofs.Ytccjdefhieilpaa.PL Go.Proofs.Ytccjdefhieilpaa.PG Go.Proofs.Ytccjdefhieilpaa.Pure
attribute [local go_sem] max2_int min2_int max_two min_two max_three min_three max_four min_four   -- for this text's walks alone
set_option linter.unusedVariables false
set_option linter.unusedSimpArgs false
def rap11.T : Bool × List (List Nat × List Nat) := (true, [([], []), ([], []), ([1], [1]), ([0, 2], [0, 2]), ([], []), ([4], [4]), ([3, 5, 3], [3, 5]), ([0, 1, 2, 3, 4, 5, 6], []), ([7, 6, 6, 0, 1, 2, 3, 4, 5, 6], [6, 7])])
def rap11.B : List Nat := [0, 0, 2, 7, 0, 16, 63, 127, 255]
theorem rap11.tab : rtab .any (opsOf Try.f115 11) = rap11.T := by kernel_rfl
theorem rap11.bits : waitsOk rap11.T.2 rap11.B = true := by kernel_rfl
set_option maxHeartbeats 32000000 in
set_option maxRecDepth 100000 in
theorem rappend_calls {w0 w : World} {d : D} {v : V} {e : S68} {arm : Int} {i : Nat} {PL : Nat → Prop} {Ar Al B : Option Addr} {cr cl cb : Nat} (hB : Below w0.heap.size w0 w) (hR : Kd.R k166 166 w w0.heap.size (fun k => some k = (Value.slice Ar (wS d.ws).length cr).ownBlock) (.slice Ar (wS d.ws).length cr) (wS d.ws))
  (hV : Kd.V k68 68 w w0.heap.size (fun k => PL k ∧ some k ≠ (Value.slice Ar (wS d.ws).length cr).ownBlock) (.slice Al v.l.length cl) v.l) (hF : Kd.F (Kd.int .u8) w (fun k => k < w0.heap.size) B e.f1.length e.f1) (hl : e.f1.length ≤ cb) (hby : Bytes e.f1)
  (h : ArmR d.fuse arm i) (hi : i ≤ 1000) (hws : d.ws.length ≤ 1000000) (hvl : v.l.length ≤ 1000000) (hv : v.dead = false) :
  Calls Try.prog 115 #[.agg #[.string (strOfNums d.b), .slice Ar (wS d.ws).length cr, .bool d.dead, .int .i64 arm, .slice Al v.l.length cl, .int .i64 v.en, .bool false], .agg #[.int .i64 e.f0, .slice B e.f1.length cb]] w fun e_ w' => ∃ v1 v4 arm', e_ = .returned (.tuple #[.agg #[.string (strOfNums (appendV d v e).1.b), v1, .bool (appendV d v e).1.dead, .int .i64 arm', v4, .int .i64 (appendV d v e).2.1.en, .bool (appendV d v e).2.1.dead], .int .i64 (appendV d v e).2.2]) ∧
   Kd.R k166 166 w' w0.heap.size (fun k => some k = (Value.slice Ar (wS d.ws).length cr).ownBlock ∨ w.heap.size ≤ k) v1 (wS (appendV d v e).1.ws) ∧ Kd.V k68 68 w' w0.heap.size (fun k => ((some k = (Value.slice Ar (wS d.ws).length cr).ownBlock ∨ PL k ∨ k < w0.heap.size) ∨ w.heap.size ≤ k) ∧ some k ≠ v1.ownBlock) v4 (appendV d v e).2.1.l ∧
   Below w0.heap.size w0 w' ∧ Kept w w' (fun k => some k = (Value.slice Ar (wS d.ws).length cr).ownBlock) ∧ ArmR (appendV d v e).1.fuse arm' (i + 1) := by
 have HB := Aside0.mk hB
 have HR0 := Aside0.mk hR
 have HR := Aside0.mk (Kd.R_mono (Kd.R_bound hR) (ok' := fun k => some k = (Value.slice Ar (wS d.ws).length cr).ownBlock ∧ k < w.heap.size) (fun k hk => ⟨hk.1, hk.2.2.1⟩))
 have HV := Aside0.mk (Kd.V_bound hV)
 have HF := Aside0.mk hF
 have HL := Aside0.mk hl
 have HVL := Aside0.mk hvl
 have HWS := Aside0.mk hws
 have HA := Aside0.mk h
 have HI := Aside0.mk hi
 have HRB := Aside0.mk (Kd.R_base hR)
 have HRL := Aside0.mk (Kd.R_lt hR)
 have HD := Aside0.mk hv
 obtain ⟨kf, hkf⟩ : ∃ kf, 10486000 ≤ kf := ⟨_, Nat.le_refl _⟩
 have hfr := rframe_eq kf e.f0 e.f1 hby hkf
 have hu68 := Try.underlying68
 have hu89 := Try.underlying89
 have hu140 := Try.underlying140
 obtain ⟨fr, fe, hq⟩ : ∃ (fr : List Int) (fe : Int), (fr, fe) = if Spec.rightE (e.f0, e.f1) then (Spec.frameL (e.f0, e.f1), (0 : Int)) else ([], 2) := ⟨_, _, rfl⟩
 have HQ := Aside0.mk hq
 have HFR := Aside0.mk (show horariumref47_Frame.f kf e.f0 e.f1 = some (fr, fe) from hfr.trans (congrArg some hq.symm))
 clear hB hR hV hF hl hby h hi hws hvl hv hfr hq hkf
 go_enter Try.func115, Try.ntmps115
 go_wp2_with (first | ((with_reducible refine gate_dst (N := 2) rfl ?_); refine box_event ?hg (N := 2) ?hd (cs := #[.string (strOfNums d.b), .slice Ar (wS d.ws).length cr, .bool d.dead, .int .i64 arm, .slice Al v.l.length cl, .int .i64 v.en, .bool false]) (t := 140) ?hr ?_; (case hd => rfl); (case hg => rfl); (case hr => first | (go_simp; done) | (go_simp; rfl)); intro g2 hgx w1 hbox hb; have B2 := Aside0.mk hbox; have X2 := Aside0.mk hb; have G2 := Aside0.mk hgx; skip; clear hbox hb hgx) | ((with_reducible refine gate_dst (N := 3) rfl ?_); refine box_event ?hg (N := 3) ?hd (cs := #[.int .i64 e.f0, .slice B e.f1.length cb]) (t := 68) ?hr ?_; (case hd => rfl); (case hg => rfl); (case hr => first | (go_simp; done) | (go_simp; rfl)); intro g3 hgx w2 hbox hb; have B3 := Aside0.mk hbox; have X3 := Aside0.mk hb; have G3 := Aside0.mk hgx; have B23 := Aside0.mk (blk_below B2.out hb); clear hbox hb hgx) | ((with_reducible refine gate_dst (N := 4) rfl ?_); refine box_event ?hg (N := 4) ?hd (cs := #[.string (⟨#[]⟩ : ByteArray), .slice none 0 0, .bool false, .int .i64 0, .slice none 0 0, .int .i64 0, .bool false]) (t := 140) ?hr ?_; (case hd => rfl); (case hg => rfl); (case hr => first | (go_simp; done) | (go_simp; rfl)); intro g4 hgx w3 hbox hb; have B4 := Aside0.mk hbox; have X4 := Aside0.mk hb; have G4 := Aside0.mk hgx; have B24 := Aside0.mk (blk_below B23.out hb); have B34 := Aside0.mk (blk_below B3.out hb); have hcg30 : w3.cell? ⟨g3, 0, none⟩ = some (.int .i64 e.f0) := (blk_cell B34.out 0).trans rfl; have hcg31 : w3.cell? ⟨g3, 1, none⟩ = some (.slice B e.f1.length cb) := (blk_cell B34.out 1).trans rfl; clear hbox hb hgx))
 have L1 := Aside0.mk (below_step X2.out X3.out)
 have L3 := Aside0.mk (below_step L1.out X4.out)
 refine (horariumref47_Frame.calls kf e.f0 B cb e.f1 _ _ _ (Kd.F_now (Kd.F_below HF.out L3.out)) HL.out HFR.out).mono ?_
 rintro e_ w4 ⟨vf, rfl, hr4, hb4⟩
 have L4 := Aside0.mk (below_step L3.out hb4)
 have HRF := Aside0.mk hr4
 obtain ⟨Af, cf, hvf⟩ := Kd.R_slice hr4
 subst hvf
 have B2_4 := Aside0.mk (blk_below B24.out hb4)
 have B3_4 := Aside0.mk (blk_below B34.out hb4)
 have B4_4 := Aside0.mk (blk_below B4.out hb4)
 have GW2 := Aside0.mk (show w.heap.size ≤ g2 by rw [G2.out]; exact Nat.le_refl _)
 have G23 := Aside0.mk (show g2 < g3 by rw [G3.out]; exact blk_lt B2.out)
 have G34 := Aside0.mk (show g3 < g4 by rw [G4.out]; exact blk_lt B3.out)
 have G4L := Aside0.mk (blk_lt B4_4.out)
 have GW4 := Aside0.mk (show w.heap.size ≤ g4 by have h1 := GW2.out; have h2 := G23.out; have h3 := G34.out; omega)
 have GE4 := Aside0.mk (show w0.heap.size ≤ g4 from Nat.le_trans HB.out.size GW4.out)
 have GE2 := Aside0.mk (show w0.heap.size ≤ g2 from Nat.le_trans HB.out.size GW2.out)
 have BW4 := Aside0.mk (below_step HB.out L4.out)
 have R4 := Aside0.mk (Kd.R_below HR.out L4.out)
 have V4 := Aside0.mk (Kd.V_below HV.out L4.out)
 have K4_ := Aside0.mk (Kept.of_below L4.out (fun k => some k = (Value.slice Ar (wS d.ws).length cr).ownBlock))
 clear hr4 hb4 hcg30 hcg31 B2 B3 B4 B23 B24 B34 X2 X3 X4 L1 L3 HFR HR
 by_cases c : Spec.rightE (e.f0, e.f1)
 ·have hq := HQ.out
  rw [if_pos c] at hq
  obtain ⟨hq1, hq2⟩ := Prod.mk.inj hq
  subst hq2
  have hn := frame_small e.f0 e.f1 c
  rw [← hq1] at hn
  have HFL := Aside0.mk (show Spec.frameL (p68 e) = fr from hq1.symm)
  have HNF := Aside0.mk hn
  have hw1 : wrap64 ((fr.length : Int) + 1) = (fr.length : Int) + 1 := by unfold wrap64; omega
  have hsz : (strOfNums d.b).size = d.b.length := strOfNums_size _
  clear hq hq1 hn HQ
  by_cases c3 : wrap64 ((d.b.length : Int) - v.en) < (fr.length : Int) + 1
  ·have cb3 : decide (wrap64 ((d.b.length : Int) - v.en) < (fr.length : Int) + 1) = true := decide_eq_true c3
   have hE := Aside0.mk (show appendV d v e = (d, v, 9) by unfold appendV; rw [if_neg (by rw [HD.out]; decide), if_pos (show Spec.rightE (p68 e) from c), HFL.out, if_pos c3])
   have hcg20 : w4.cell? ⟨g2, 0, none⟩ = some (.string (strOfNums d.b)) := (blk_cell B2_4.out 0).trans rfl
   have hcg21 : w4.cell? ⟨g2, 1, none⟩ = some (.slice Ar (wS d.ws).length cr) := (blk_cell B2_4.out 1).trans rfl
   have hcg22 : w4.cell? ⟨g2, 2, none⟩ = some (.bool d.dead) := (blk_cell B2_4.out 2).trans rfl
   have hcg23 : w4.cell? ⟨g2, 3, none⟩ = some (.int .i64 arm) := (blk_cell B2_4.out 3).trans rfl
   have hcg24 : w4.cell? ⟨g2, 4, none⟩ = some (.slice Al v.l.length cl) := (blk_cell B2_4.out 4).trans rfl
   have hcg25 : w4.cell? ⟨g2, 5, none⟩ = some (.int .i64 v.en) := (blk_cell B2_4.out 5).trans rfl
   have hcg26 : w4.cell? ⟨g2, 6, none⟩ = some (.bool false) := (blk_cell B2_4.out 6).trans rfl
   have hcg40 : w4.cell? ⟨g4, 0, none⟩ = some (.string (⟨#[]⟩ : ByteArray)) := (blk_cell B4_4.out 0).trans rfl
   have hcg41 : w4.cell? ⟨g4, 1, none⟩ = some (.slice none 0 0) := (blk_cell B4_4.out 1).trans rfl
   have hcg42 : w4.cell? ⟨g4, 2, none⟩ = some (.bool false) := (blk_cell B4_4.out 2).trans rfl
   have hcg43 : w4.cell? ⟨g4, 3, none⟩ = some (.int .i64 0) := (blk_cell B4_4.out 3).trans rfl
   have hcg44 : w4.cell? ⟨g4, 4, none⟩ = some (.slice none 0 0) := (blk_cell B4_4.out 4).trans rfl
   have hcg45 : w4.cell? ⟨g4, 5, none⟩ = some (.int .i64 0) := (blk_cell B4_4.out 5).trans rfl
   have hcg46 : w4.cell? ⟨g4, 6, none⟩ = some (.bool false) := (blk_cell B4_4.out 6).trans rfl
   have hfg40 := blk_frozen B4_4.out 0
   have hfg41 := blk_frozen B4_4.out 1
   have hfg42 := blk_frozen B4_4.out 2
   have hfg43 := blk_frozen B4_4.out 3
   have hfg44 := blk_frozen B4_4.out 4
   have hfg45 := blk_frozen B4_4.out 5
   have hfg46 := blk_frozen B4_4.out 6
   go_wp2_with ((with_reducible refine gate_store (t := 140) (p := 4) rfl ?_); refine store_event (t := 140) (p := 4) (v := .tmp 29) (w1 := (((((((w4.setCell ⟨g4, 0, none⟩ (.string (strOfNums d.b))).setCell ⟨g4, 1, none⟩ (.slice Ar (wS d.ws).length cr)).setCell ⟨g4, 2, none⟩ (.bool d.dead)).setCell ⟨g4, 3, none⟩ (.int .i64 arm)).setCell ⟨g4, 4, none⟩ (.slice Al v.l.length cl)).setCell ⟨g4, 5, none⟩ (.int .i64 v.en)).setCell ⟨g4, 6, none⟩ (.bool false))) ?hg ?ho ?hn ?hr ?_; (case ho => rfl); (case hg => rfl); (case hn => rfl); (case hr => first | (go_simp; done) | (go_simp; rfl)); intro wf hw3; have BF := Aside0.mk (show wf.heap[g4]? = some (.cells #[.string (strOfNums d.b), .slice Ar (wS d.ws).length cr, .bool d.dead, .int .i64 arm, .slice Al v.l.length cl, .int .i64 v.en, .bool false] 140 (0, 0)) by rw [hw3]; exact (blk_put (blk_put (blk_put (blk_put (blk_put (blk_put (blk_put B4_4.out 0 _ rfl) 1 _ rfl) 2 _ rfl) 3 _ rfl) 4 _ rfl) 5 _ rfl) 6 _ rfl)); have K4 := Aside0.mk (show Kept w4 wf (fun k => k = g4) by rw [hw3]; exact ((((((((Kept.refl w4 (fun k => k = g4)).setCell (.inl rfl) _).setCell (.inl rfl) _).setCell (.inl rfl) _).setCell (.inl rfl) _).setCell (.inl rfl) _).setCell (.inl rfl) _).setCell (.inl rfl) _)); have BW := Aside0.mk (show Below w0.heap.size w0 wf by rw [hw3]; exact (((((((BW4.out.setCell (p := ⟨g4, 0, none⟩) GE4.out _).setCell (p := ⟨g4, 1, none⟩) GE4.out _).setCell (p := ⟨g4, 2, none⟩) GE4.out _).setCell (p := ⟨g4, 3, none⟩) GE4.out _).setCell (p := ⟨g4, 4, none⟩) GE4.out _).setCell (p := ⟨g4, 5, none⟩) GE4.out _).setCell (p := ⟨g4, 6, none⟩) GE4.out _)); clear hw3)
   refine bodyPost_ret (results_ct rfl _ _ g4 140 #[.string (strOfNums d.b), .slice Ar (wS d.ws).length cr, .bool d.dead, .int .i64 arm, .slice Al v.l.length cl, .int .i64 v.en, .bool false] (0, 0) _ rfl BF.out Try.underlying140 rfl (by kernel_rfl)) rfl ?_
   have RW := Kd.R_step R4.out (fun k hk hlt => K4.out.2 k hlt ((fun k hk => by have h1 := hk.2; have h2 := GW4.out; omega) k hk))
   have VW := Kd.V_kept V4.out K4.out (fun k hk => by have h1 := hk.2; have h2 := GW4.out; omega)
   have KW := K4_.out.then_ K4.out (fun k hk => .inr (by rw [hk]; exact GW4.out))
   exact ⟨.slice Ar (wS d.ws).length cr, .slice Al v.l.length cl, arm, by rw [hE.out]; simp only [HD.out]; rfl, by rw [hE.out]; exact Kd.R_mono RW (fun k hk => .inl hk.1), by rw [hE.out]; exact Kd.V_mono VW (fun k hk => ⟨.inl (.inr (.inl hk.1.1)), hk.1.2⟩), BW.out, KW, by rw [hE.out]; exact HA.out.more (Nat.le_succ _)⟩
  ·have cb3 : decide (wrap64 ((d.b.length : Int) - v.en) < (fr.length : Int) + 1) = false := decide_eq_false c3
   have hcg20 : w4.cell? ⟨g2, 0, none⟩ = some (.string (strOfNums d.b)) := (blk_cell B2_4.out 0).trans rfl
   have hcg21 : w4.cell? ⟨g2, 1, none⟩ = some (.slice Ar (wS d.ws).length cr) := (blk_cell B2_4.out 1).trans rfl
   have hcg22 : w4.cell? ⟨g2, 2, none⟩ = some (.bool d.dead) := (blk_cell B2_4.out 2).trans rfl
   have hcg23 : w4.cell? ⟨g2, 3, none⟩ = some (.int .i64 arm) := (blk_cell B2_4.out 3).trans rfl
   have hcg25 : w4.cell? ⟨g2, 5, none⟩ = some (.int .i64 v.en) := (blk_cell B2_4.out 5).trans rfl
   obtain ⟨arm', hwr, ha⟩ := rwrite_eq HA.out HI.out HWS.out v.en (fr ++ [0])
   rw [s_append] at hwr
   have C3 := Aside0.mk c3
   have hcv := own_string (P := Try.prog) Try.underlying44 Try.underlying5 Try.underlying9 (Kd.own_of_R HRF.out)
   have hcat : (9223372036854775807 < (strOfNums fr).size + 1) = False := eq_false (by rw [strOfNums_size]; have := HNF.out; omega)
   obtain ⟨dz, hdz⟩ : ∃ dz, dz = (writeD d v.en (fr ++ [0])).1 := ⟨_, rfl⟩
   obtain ⟨qz, hqz⟩ : ∃ qz, qz = (writeD d v.en (fr ++ [0])).2 := ⟨_, rfl⟩
   rw [← hdz, ← hqz] at hwr
   rw [← hdz] at ha
   have HWR := Aside0.mk (show horariumref48_Write.f (strOfNums d.b) (wS d.ws) d.dead arm v.en (strOfNums fr ++ (⟨#[0]⟩ : ByteArray)) = some (strOfNums dz.b, wS dz.ws, dz.dead, arm', qz) from hwr)
   have HA5 := Aside0.mk ha
   have HDZ := Aside0.mk hdz
   have HQZ := Aside0.mk hqz
   clear hwr ha hdz hqz c3
   go_wp2_with fail
   refine (horariumref48_Write.calls (strOfNums d.b) (fun k => some k = (Value.slice Ar (wS d.ws).length cr).ownBlock ∧ k < w.heap.size) (.slice Ar (wS d.ws).length cr) (wS d.ws) d.dead arm v.en (strOfNums fr ++ (⟨#[0]⟩ : ByteArray)) _ _ _ _ _ w0 w4 BW4.out R4.out HWR.out).mono ?_
   rintro e_ w5 ⟨v5, rfl, hr5, hb5, hk5⟩
   obtain ⟨A5, c5, hv5⟩ := Kd.R_slice hr5
   subst hv5
   have hne4 : ∀ g, w.heap.size ≤ g → ¬ (some g = (Value.slice Ar (wS d.ws).length cr).ownBlock ∧ g < w.heap.size) := fun g h1 h2 => by have := h2.2; omega
   have B2_5 := Aside0.mk (blk_kept B2_4.out hk5 (hne4 g2 GW2.out))
   have B3_5 := Aside0.mk (blk_kept B3_4.out hk5 (hne4 g3 (by have h1 := GW2.out; have h2 := G23.out; omega)))
   have B4_5 := Aside0.mk (blk_kept B4_4.out hk5 (hne4 g4 GW4.out))
   have S45 := Aside0.mk L4.out.size
   have R5 := Aside0.mk (Kd.R_tight rfl hr5)
   have O5 := Aside0.mk (show ∀ k, (Value.slice A5 (wS dz.ws).length c5).ownBlock = some k → (some k = (Value.slice Ar (wS d.ws).length cr).ownBlock ∨ w.heap.size ≤ k) ∧ w0.heap.size ≤ k ∧ k < w5.heap.size ∧ k ≠ g2 ∧ k ≠ g3 ∧ k ≠ g4 from fun k hk => by
    have h1 := Kd.R_base hr5 k hk
    have h2 := Kd.R_lt hr5 k hk
    have h3 := hr5.1 k hk
    have h4 := GW2.out
    have h5 := G23.out
    have h6 := G34.out
    have h7 := G4L.out
    have h8 := S45.out
    refine ⟨h3.elim (fun h => .inl h.1) (fun h => .inr (by omega)), h1, h2, ?_⟩
    rcases h3 with h | h
    ·have := h.2
     omega
    ·omega)
   have V5 := Aside0.mk (Kd.V_kept V4.out hk5 (fun k hk h => hk.1.2 h.1))
   have F5 := Aside0.mk (Kd.F_kept (Kd.F_below HF.out L4.out) hk5 (fun k hk h => by have := HRB.out k h.1.symm; omega))
   have K5 := Aside0.mk (K4_.out.then_ hk5 (fun k hk => .inl hk.1))
   have BW5 := Aside0.mk hb5
   have S5 := Aside0.mk hk5.1
   clear hr5 hb5 hk5 hne4 hcv hcat hw1 hsz cb3 hcg20 hcg21 hcg22 hcg23 hcg25
   by_cases c4 : qz = 0
   ·subst c4
    have hE := Aside0.mk (show appendV d v e = (dz, ⟨v.l ++ [e], wrap64 (v.en + (fr.length : Int)), false⟩, 0) by unfold appendV; rw [if_neg (by rw [HD.out]; decide), if_pos (show Spec.rightE (p68 e) from c), HFL.out, if_neg (by have := C3.out; omega), if_pos HQZ.out.symm, ← HDZ.out])
    go_wp2_with (first | ((with_reducible refine gate_dst (N := 8) rfl ?_); refine box_event ?hg (N := 8) ?hd (cs := #[.string (⟨#[]⟩ : ByteArray), .slice none 0 0, .bool false, .int .i64 0]) (t := 89) ?hr ?_; (case hd => rfl); (case hg => rfl); (case hr => first | (go_simp; done) | (go_simp; rfl)); intro g8 hgx w6 hbox hb; have B8 := Aside0.mk hbox; have X8 := Aside0.mk hb; have G8 := Aside0.mk hgx; have hcg80 : w6.cell? ⟨g8, 0, none⟩ = some (.string (⟨#[]⟩ : ByteArray)) := (blk_cell B8.out 0).trans rfl; have hcg81 : w6.cell? ⟨g8, 1, none⟩ = some (.slice none 0 0) := (blk_cell B8.out 1).trans rfl; have hcg82 : w6.cell? ⟨g8, 2, none⟩ = some (.bool false) := (blk_cell B8.out 2).trans rfl; have hcg83 : w6.cell? ⟨g8, 3, none⟩ = some (.int .i64 0) := (blk_cell B8.out 3).trans rfl; have hfg80 := blk_frozen B8.out 0; have hfg81 := blk_frozen B8.out 1; have hfg82 := blk_frozen B8.out 2; have hfg83 := blk_frozen B8.out 3; clear hbox hb hgx) | ((with_reducible refine gate_store (t := 89) (p := 8) rfl ?_); refine store_event (t := 89) (p := 8) (v := .tmp 39) (w1 := ((((w6.setCell ⟨g8, 0, none⟩ (.string (strOfNums dz.b))).setCell ⟨g8, 1, none⟩ (.slice A5 (wS dz.ws).length c5)).setCell ⟨g8, 2, none⟩ (.bool dz.dead)).setCell ⟨g8, 3, none⟩ (.int .i64 arm'))) ?hg ?ho ?hn ?hr ?_; (case ho => rfl); (case hg => rfl); (case hn => rfl); (case hr => first | (go_simp; done) | (go_simp; rfl)); intro w7 hw3; have hb7 : Below w5.heap.size w5 w7 := (by rw [hw3]; exact ((((X8.out.setCell (p := ⟨g8, 0, none⟩) (by rw [G8.out]; exact Nat.le_refl _) _).setCell (p := ⟨g8, 1, none⟩) (by rw [G8.out]; exact Nat.le_refl _) _).setCell (p := ⟨g8, 2, none⟩) (by rw [G8.out]; exact Nat.le_refl _) _).setCell (p := ⟨g8, 3, none⟩) (by rw [G8.out]; exact Nat.le_refl _) _)); have B8_7 := Aside0.mk (show w7.heap[g8]? = some (.cells #[.string (strOfNums dz.b), .slice A5 (wS dz.ws).length c5, .bool dz.dead, .int .i64 arm'] 89 (0, 0)) by rw [hw3]; exact (blk_put (blk_put (blk_put (blk_put B8.out 0 _ rfl) 1 _ rfl) 2 _ rfl) 3 _ rfl)); have B2_7 := Aside0.mk (blk_below B2_5.out hb7); have B3_7 := Aside0.mk (blk_below B3_5.out hb7); have B4_7 := Aside0.mk (blk_below B4_5.out hb7); have L57 := Aside0.mk hb7; clear hw3 hb7 hcg80 hcg81 hcg82 hcg83 hfg80 hfg81 hfg82 hfg83; have hcg80 : w7.cell? ⟨g8, 0, none⟩ = some (.string (strOfNums dz.b)) := (blk_cell B8_7.out 0).trans rfl; have hcg81 : w7.cell? ⟨g8, 1, none⟩ = some (.slice A5 (wS dz.ws).length c5) := (blk_cell B8_7.out 1).trans rfl; have hcg82 : w7.cell? ⟨g8, 2, none⟩ = some (.bool dz.dead) := (blk_cell B8_7.out 2).trans rfl; have hcg83 : w7.cell? ⟨g8, 3, none⟩ = some (.int .i64 arm') := (blk_cell B8_7.out 3).trans rfl; have hcg20 : w7.cell? ⟨g2, 0, none⟩ = some (.string (strOfNums d.b)) := (blk_cell B2_7.out 0).trans rfl; have hcg21 : w7.cell? ⟨g2, 1, none⟩ = some (.slice Ar (wS d.ws).length cr) := (blk_cell B2_7.out 1).trans rfl; have hcg22 : w7.cell? ⟨g2, 2, none⟩ = some (.bool d.dead) := (blk_cell B2_7.out 2).trans rfl; have hcg23 : w7.cell? ⟨g2, 3, none⟩ = some (.int .i64 arm) := (blk_cell B2_7.out 3).trans rfl; have hfg20 := blk_frozen B2_7.out 0; have hfg21 := blk_frozen B2_7.out 1; have hfg22 := blk_frozen B2_7.out 2; have hfg23 := blk_frozen B2_7.out 3; have BW7 := Aside0.mk (BW5.out.trans (L57.out.mono (Nat.le_trans BW5.out.size (Nat.le_refl _))))) | ((with_reducible refine gate_store (t := 89) (p := 42) rfl ?_); refine store_event (t := 89) (p := 42) (v := .tmp 41) (w1 := ((((w7.setCell ⟨g2, 0, none⟩ (.string (strOfNums dz.b))).setCell ⟨g2, 1, none⟩ (.slice A5 (wS dz.ws).length c5)).setCell ⟨g2, 2, none⟩ (.bool dz.dead)).setCell ⟨g2, 3, none⟩ (.int .i64 arm'))) ?hg ?ho ?hn ?hr ?_; (case ho => rfl); (case hg => rfl); (case hn => rfl); (case hr => first | (go_simp; done) | (go_simp; rfl)); intro w8 hw3; have B2_8 := Aside0.mk (show w8.heap[g2]? = some (.cells #[.string (strOfNums dz.b), .slice A5 (wS dz.ws).length c5, .bool dz.dead, .int .i64 arm', .slice Al v.l.length cl, .int .i64 v.en, .bool false] 140 (0, 0)) by rw [hw3]; exact (blk_put (blk_put (blk_put (blk_put B2_7.out 0 _ rfl) 1 _ rfl) 2 _ rfl) 3 _ rfl)); have K8 := Aside0.mk (show Kept w7 w8 (fun k => k = g2) by rw [hw3]; exact (((((Kept.refl w7 (fun k => k = g2)).setCell (.inl rfl) _).setCell (.inl rfl) _).setCell (.inl rfl) _).setCell (.inl rfl) _)); have BW8 := Aside0.mk (show Below w0.heap.size w0 w8 by rw [hw3]; exact ((((BW7.out.setCell (p := ⟨g2, 0, none⟩) GE2.out _).setCell (p := ⟨g2, 1, none⟩) GE2.out _).setCell (p := ⟨g2, 2, none⟩) GE2.out _).setCell (p := ⟨g2, 3, none⟩) GE2.out _)); clear hw3 hcg80 hcg81 hcg82 hcg83 hcg20 hcg21 hcg22 hcg23 hfg20 hfg21 hfg22 hfg23; have B3_8 := Aside0.mk (blk_kept B3_7.out K8.out (fun h => by have := G23.out; omega)); have B4_8 := Aside0.mk (blk_kept B4_7.out K8.out (fun h => by have h1 := G23.out; have h2 := G34.out; omega)); have R8 := Aside0.mk (Kd.R_step (Kd.R_below R5.out L57.out) (fun k hk hlt => K8.out.2 k hlt (O5.out k hk.symm).2.2.2.1)); have V8 := Aside0.mk (Kd.V_kept (Kd.V_below V5.out L57.out) K8.out (fun k hk => by have h1 := hk.2; have h2 := GW2.out; omega)); have F8 := Aside0.mk (Kd.F_kept (Kd.F_below F5.out L57.out) K8.out (fun k hk => by have h1 : k < w0.heap.size := hk; have h2 := GE2.out; omega)); have K8_ := Aside0.mk ((K5.out.then_ (Kept.of_below L57.out (fun _ => False)) (fun _ h => h.elim)).then_ K8.out (fun k hk => .inr (by rw [hk]; exact GW2.out))); have S8 := Aside0.mk (Nat.le_trans L57.out.size K8.out.1); clear R5 V5 F5 K5 BW5 BW7 B2_5 B3_5 B4_5 B2_7 B3_7 B4_7 B8_7 B8 X8 G8))
    refine start_ (n := 9) (S := fun w' => w'.cell? ⟨g2, 4, none⟩ = some (.slice Al v.l.length cl) ∧ w'.cell? ⟨g3, 0, none⟩ = some (.int .i64 e.f0) ∧ w'.cell? ⟨g3, 1, none⟩ = some (.slice B e.f1.length cb)) (ds := [8]) #[f_,f_,f_,f_,f_,f_,f_,f_,f_] (by kernel_rfl) rfl rfl ⟨(blk_cell B2_8.out 4).trans rfl, (blk_cell B3_8.out 0).trans rfl, (blk_cell B3_8.out 1).trans rfl⟩ (fun hHeld => ?_); refine with_tabW rap11.tab rap11.bits (fun HT_ HW_ => ?_)
    have B2_9 := Aside0.mk (blk_drew B2_8.out); have B3_9 := Aside0.mk (blk_drew B3_8.out); have B4_9 := Aside0.mk (blk_drew B4_8.out); have R9 := Aside0.mk (Kd.R_drew R8.out); have V9 := Aside0.mk (Kd.V_drew V8.out); have F9 := Aside0.mk (Kd.F_drew F8.out); have K9 := Aside0.mk (K8_.out.then_ (Kept.of_below (below_drew (Below.refl w8.heap.size w8)) (fun _ => False)) (fun _ h => h.elim)); have BW9 := Aside0.mk (below_drew1 BW8.out); have S9 := Aside0.mk (show w5.heap.size ≤ w8.drew.heap.size from S8.out); clear B2_8 B3_8 B4_8 R8 V8 F8 K8_ BW8 S8 K8; generalize w8.drew = w9 at B2_9 B3_9 B4_9 R9 V9 F9 K9 BW9 S9 hHeld ⊢
    refine pure_ (i := 1) (N := some 49) (v := ?_) (a' := ?_) #[f_,t_,f_,f_,f_,f_,f_,f_,f_] rfl rfl (any_of HT_.out (by kernel_rfl)) (fun _ _ _ h => h) (Or.inl ⟨by rfl, ?_⟩) ?_ ?_
    rotate_left
    ·intro w'
     go_simp
     with_reducible rfl
    rotate_left
    ·simp only [Act.put, sA, sZ, sS, i64_w, i32_w]
     rfl
    refine take_ (i := 2) (N := some 50) (v := ?_) (a' := ?_) #[f_,t_,t_,f_,f_,f_,f_,f_,f_] rfl rfl (take_ofW HT_.out HW_.out (by kernel_rfl)) (fun _ _ _ h => h) (Or.inl ⟨by rfl, ?_⟩) hHeld ?_ ?_
    rotate_left
    ·rintro w' ⟨s0, s1, s2⟩
     go_simp
     with_reducible rfl
    rotate_left
    ·simp only [Act.put, sA, sZ, sS, i64_w, i32_w]
     rfl
    refine take_ (i := 4) (N := some 52) (v := ?_) (a' := ?_) #[f_,t_,t_,f_,t_,f_,f_,f_,f_] rfl rfl (take_ofW HT_.out HW_.out (by kernel_rfl)) (fun _ _ _ h => h) (Or.inl ⟨by rfl, ?_⟩) hHeld ?_ ?_
    rotate_left
    ·rintro w' ⟨s0, s1, s2⟩
     go_simp
     with_reducible rfl
    rotate_left
    ·simp only [Act.put, sA, sZ, sS, i64_w, i32_w]
     rfl
    obtain ⟨OKX, hOKX⟩ : ∃ OKX : Nat → Prop, OKX = (fun k => (((PL k ∨ k < w0.heap.size ∨ w.heap.size ≤ k) ∧ some k ≠ (Value.slice A5 (wS dz.ws).length c5).ownBlock) ∧ k ≠ g2) ∧ k ≠ g4) := ⟨_, rfl⟩
    have S59 := Aside0.mk (show w.heap.size ≤ w9.heap.size by have h1 := S9.out; have h2 := S5.out; have h3 := S45.out; omega)
    have OF := Aside0.mk (show ∀ k, w9.heap.size ≤ k → OKX k from fun k hk => by
     rw [hOKX]
     have h1 := S9.out
     have h2 := S5.out
     have h3 := G4L.out
     have h4 := G23.out
     have h5 := G34.out
     have h6 := S59.out
     exact ⟨⟨⟨.inr (.inr (by omega)), fun e => by have := (O5.out k e.symm).2.2.1; omega⟩, by omega⟩, by omega⟩)
    have OP := Aside0.mk (show ∀ k, ((PL k ∧ some k ≠ (Value.slice Ar (wS d.ws).length cr).ownBlock) ∧ k < w.heap.size) → OKX k from fun k hk => by
     rw [hOKX]
     have h1 := hk.2
     have h2 := GW2.out
     have h3 := GW4.out
     exact ⟨⟨⟨.inl hk.1.1, fun e => (O5.out k e.symm).1.elim hk.1.2 (fun h => by omega)⟩, by omega⟩, by omega⟩)
    have OE := Aside0.mk (show ∀ k, k < w0.heap.size → OKX k from fun k hk => by
     rw [hOKX]
     have h2 := GE2.out
     have h3 := GE4.out
     exact ⟨⟨⟨.inr (.inl hk), fun e => by have := (O5.out k e.symm).2.1; omega⟩, by omega⟩, by omega⟩)
    have HOKX := Aside0.mk hOKX
    clear hOKX
    refine join_ (σ := Value × Value × Value) 3 #[t_,t_,t_,t_,t_,t_,f_,f_,f_] (fun s_ => [(48, s_.1), (51, s_.2.1), (53, s_.2.2)]) (fun s_ w' => (w'.cell? ⟨g2, 4, none⟩ = some (.slice Al v.l.length cl) ∧ w'.cell? ⟨g3, 0, none⟩ = some (.int .i64 e.f0) ∧ w'.cell? ⟨g3, 1, none⟩ = some (.slice B e.f1.length cb)) ∧ Aside0 (Kd.N k68 68 w' w9.heap.size OKX s_.2.1 v.l) ∧ Aside0 (Kd.N k68 68 w' w9.heap.size (fun k => OKX k ∧ some k ≠ (s_.2.1 : Value).ownBlock) s_.2.2 [e]) ∧ Aside0 (Below w9.heap.size w9 w')) ?_ ?_
    rotate_left
    ·intro hCont
     refine two_ (i := 0) (j := 5) (Ni := some 48) (Nj := some 53) #[t_,t_,t_,f_,t_,f_,f_,f_,f_] #[f_,t_,t_,f_,t_,t_,f_,f_,f_] rfl rfl rfl rfl (two_of HT_.out (by kernel_rfl)) (by decide) (by decide) (fun K hK => ?_) (fun K hK => ?_)
     ·have L9 := Aside0.mk (Below.refl w9.heap.size w9)
      refine Kd.N_lit_step k68 (w0 := w9) w9.heap.size 68 (by rfl) (N' := 48) ?hd (xs := ([] : List S68)) (inner := []) (ok := OKX) (okp := fun _ => False) ?hr (Reps.none _ _) (fun _ h => h.elim) (OF.out _ L9.out.size) (L9.out) (L9.out.size) (by simp) ?_; (case hd => rfl); (case hr => first | (go_simp; done) | (go_simp; rfl))
      intro va wa hna hba _ _
      obtain ⟨Aa, ca, hva⟩ := Kd.N_slice hna
      have hva : va = .slice Aa 0 ca := hva
      subst hva
      have NA := Aside0.mk hna
      have LA := Aside0.mk hba
      clear hna hba
      refine hK.out _ _ ⟨(blk_cell (blk_below B2_9.out LA.out) 4).trans rfl, (blk_cell (blk_below B3_9.out LA.out) 0).trans rfl, (blk_cell (blk_below B3_9.out LA.out) 1).trans rfl⟩ (fun hHeld => ?_)
      clear hK K
      refine norm_ (a' := ?_) ?_ ?_
      rotate_left
      ·show Act.put _ (some 48) _ = _
       simp only [Act.put, sA, sZ, sS, i64_w, i32_w]
       rfl
      refine two_ (i := 3) (j := 5) (Ni := some 51) (Nj := some 53) #[t_,t_,t_,t_,t_,f_,f_,f_,f_] #[t_,t_,t_,f_,t_,t_,f_,f_,f_] rfl rfl rfl rfl (two_of HT_.out (by kernel_rfl)) (by decide) (by decide) (fun K hK => ?_) (fun K hK => ?_)
      ·skip
       refine Kd.N_append_rows_step k68 (w0 := w9) w9.heap.size (by rfl) (.tmp 48) (.tmp 50) 66 68 (.agg #[(.int .i64 0), (.slice none 0 0)]) 32 rfl Try.underlying66 Go.Proofs.Ytccjdefhieilpaa.PL.info68 rfl (by decide) (by omega) (.slice Aa 0 ca) ([] : List S68) v.l Al v.l.length cl OKX (fun k => (PL k ∧ some k ≠ (Value.slice Ar (wS d.ws).length cr).ownBlock) ∧ k < w.heap.size) rfl rfl NA.out (Kd.V_F (Kd.V_below V9.out LA.out)) (fun k hk => ⟨OP.out k hk, fun e_ => by have h1 := Kd.N_base NA.out k e_.symm; have h2 := hk.2; have h3 := S59.out; omega⟩) (fun k hk => OF.out k (Nat.le_trans LA.out.size hk)) LA.out LA.out.size (by have h1 := HVL.out; show (0 + v.l.length) * 32 ≤ _; omega) ?_
       intro vb wb hnb hbb hgb hatb
       have hnb : Kd.N k68 68 wb w9.heap.size OKX vb v.l := hnb
       obtain ⟨Ab, cb2, hvb⟩ := Kd.N_slice hnb
       subst hvb
       have NB := Aside0.mk hnb
       have LB := Aside0.mk hbb
       clear hnb hbb
       refine hK.out _ _ ⟨(blk_cell (blk_below B2_9.out LB.out) 4).trans rfl, (blk_cell (blk_below B3_9.out LB.out) 0).trans rfl, (blk_cell (blk_below B3_9.out LB.out) 1).trans rfl⟩ (fun hHeld => ?_)
       clear hK K
       refine norm_ (a' := ?_) ?_ ?_
       rotate_left
       ·show Act.put _ (some 51) _ = _
        simp only [Act.put, sA, sZ, sS, i64_w, i32_w]
        rfl
       refine one_ (i := 5) (N := some 53) #[t_,t_,t_,t_,t_,t_,f_,f_,f_] rfl rfl (one_of HT_.out (by kernel_rfl)) (by decide) (fun K hK => ?_)
       refine Kd.N_lit_step k68 (w0 := wb) wb.heap.size 68 (by rfl) (N' := 53) ?hd (xs := ([e] : List S68)) (inner := [.int .i64 e.f0, .slice B e.f1.length cb]) (ok := (fun k => OKX k ∧ some k ≠ (Value.slice Ab v.l.length cb2).ownBlock)) (okp := fun k => k < w0.heap.size) ?hr (Reps.c2 (k68_mkF wb _ e HL.out (Kd.F_below F9.out LB.out)) (Reps.none _ _)) (fun k hk => ⟨OE.out k hk, fun e_ => by have h1 : k < w0.heap.size := hk; have h2 := Kd.N_base NB.out k e_.symm; have h3 := S59.out; have h4 := HB.out.size; omega⟩) ⟨OF.out _ LB.out.size, fun e_ => by have := Kd.N_lt NB.out _ e_.symm; omega⟩ (Below.refl _ _) (Nat.le_refl _) (by simp) ?_; (case hd => rfl); (case hr => first | (go_simp; done) | (go_simp; rfl))
       intro vd wd hnd hbd _ _
       obtain ⟨Ad, cd, hvd⟩ := Kd.N_slice hnd
       have hvd : vd = .slice Ad 1 cd := hvd
       subst hvd
       have ND := Aside0.mk (Kd.N_lower hnd LB.out.size)
       have LD := Aside0.mk (LB.out.trans (hbd.mono LB.out.size))
       clear hnd
       refine hK.out _ _ ⟨(blk_cell (blk_below B2_9.out LD.out) 4).trans rfl, (blk_cell (blk_below B3_9.out LD.out) 0).trans rfl, (blk_cell (blk_below B3_9.out LD.out) 1).trans rfl⟩ (fun hHeld => ?_)
       have NB2 := Kd.N_below NB.out hbd
       clear hK K
       refine norm_ (a' := ?_) ?_ ?_
       rotate_left
       ·show Act.put _ (some 53) _ = _
        simp only [Act.put, sA, sZ, sS, i64_w, i32_w]
        rfl
       exact norm_ (by simp only [putAll, Act.put, sA, sZ, sS]) (hCont (.slice Aa 0 ca, .slice Ab v.l.length cb2, .slice Ad 1 cd) _ ⟨hHeld, ⟨NB2⟩, ND, LD⟩)
      ·skip
       refine Kd.N_lit_step k68 (w0 := wa) wa.heap.size 68 (by rfl) (N' := 53) ?hd (xs := ([e] : List S68)) (inner := [.int .i64 e.f0, .slice B e.f1.length cb]) (ok := (fun k => OKX k ∧ some k ≠ (Value.slice Aa 0 ca).ownBlock)) (okp := fun k => k < w0.heap.size) ?hr (Reps.c2 (k68_mkF wa _ e HL.out (Kd.F_below F9.out LA.out)) (Reps.none _ _)) (fun k hk => ⟨OE.out k hk, fun e_ => by have h1 : k < w0.heap.size := hk; have h2 := Kd.N_base NA.out k e_.symm; have h3 := S59.out; have h4 := HB.out.size; omega⟩) ⟨OF.out _ LA.out.size, fun e_ => by have := Kd.N_lt NA.out _ e_.symm; omega⟩ (Below.refl _ _) (Nat.le_refl _) (by simp) ?_; (case hd => rfl); (case hr => first | (go_simp; done) | (go_simp; rfl))
       intro vd wd hnd hbd _ _
       obtain ⟨Ad, cd, hvd⟩ := Kd.N_slice hnd
       have hvd : vd = .slice Ad 1 cd := hvd
       subst hvd
       have ND := Aside0.mk (Kd.N_lower hnd LA.out.size)
       have LD := Aside0.mk (LA.out.trans (hbd.mono LA.out.size))
       clear hnd
       refine hK.out _ _ ⟨(blk_cell (blk_below B2_9.out LD.out) 4).trans rfl, (blk_cell (blk_below B3_9.out LD.out) 0).trans rfl, (blk_cell (blk_below B3_9.out LD.out) 1).trans rfl⟩ (fun hHeld => ?_)
       have NA := Aside0.mk (Kd.N_below NA.out hbd)
       clear hK K
       refine norm_ (a' := ?_) ?_ ?_
       rotate_left
       ·show Act.put _ (some 53) _ = _
        simp only [Act.put, sA, sZ, sS, i64_w, i32_w]
        rfl
       refine one_ (i := 3) (N := some 51) #[t_,t_,t_,t_,t_,t_,f_,f_,f_] rfl rfl (one_of HT_.out (by kernel_rfl)) (by decide) (fun K hK => ?_)
       refine Kd.N_append_rows_step k68 (w0 := w9) w9.heap.size (by rfl) (.tmp 48) (.tmp 50) 66 68 (.agg #[(.int .i64 0), (.slice none 0 0)]) 32 rfl Try.underlying66 Go.Proofs.Ytccjdefhieilpaa.PL.info68 rfl (by decide) (by omega) (.slice Aa 0 ca) ([] : List S68) v.l Al v.l.length cl OKX (fun k => (PL k ∧ some k ≠ (Value.slice Ar (wS d.ws).length cr).ownBlock) ∧ k < w.heap.size) rfl rfl NA.out (Kd.V_F (Kd.V_below V9.out LD.out)) (fun k hk => ⟨OP.out k hk, fun e_ => by have h1 := Kd.N_base NA.out k e_.symm; have h2 := hk.2; have h3 := S59.out; omega⟩) (fun k hk => OF.out k (Nat.le_trans LD.out.size hk)) LD.out LD.out.size (by have h1 := HVL.out; show (0 + v.l.length) * 32 ≤ _; omega) ?_
       intro vb wb hnb hbb hgb hatb
       have hnb : Kd.N k68 68 wb w9.heap.size OKX vb v.l := hnb
       obtain ⟨Ab, cb2, hvb⟩ := Kd.N_slice hnb
       subst hvb
       have NB := Aside0.mk hnb
       have LB := Aside0.mk hbb
       clear hnb hbb
       refine hK.out _ _ ⟨(blk_cell (blk_below B2_9.out LB.out) 4).trans rfl, (blk_cell (blk_below B3_9.out LB.out) 0).trans rfl, (blk_cell (blk_below B3_9.out LB.out) 1).trans rfl⟩ (fun hHeld => ?_)
       have ND2 := Kd.N_after ND.out hgb hatb
       clear hK K
       refine norm_ (a' := ?_) ?_ ?_
       rotate_left
       ·show Act.put _ (some 51) _ = _
        simp only [Act.put, sA, sZ, sS, i64_w, i32_w]
        rfl
       exact norm_ (by simp only [putAll, Act.put, sA, sZ, sS]) (hCont (.slice Aa 0 ca, .slice Ab v.l.length cb2, .slice Ad 1 cd) _ ⟨hHeld, NB, ⟨ND2⟩, LB⟩)
     ·have L9 := Aside0.mk (Below.refl w9.heap.size w9)
      refine Kd.N_lit_step k68 (w0 := w9) w9.heap.size 68 (by rfl) (N' := 53) ?hd (xs := ([e] : List S68)) (inner := [.int .i64 e.f0, .slice B e.f1.length cb]) (ok := OKX) (okp := fun k => k < w0.heap.size) ?hr (Reps.c2 (k68_mkF w9 _ e HL.out (Kd.F_below F9.out L9.out)) (Reps.none _ _)) OE.out (OF.out _ (Nat.le_refl _)) (Below.refl _ _) (Nat.le_refl _) (by simp) ?_; (case hd => rfl); (case hr => first | (go_simp; done) | (go_simp; rfl))
      intro vd wd hnd hbd _ _
      obtain ⟨Ad, cd, hvd⟩ := Kd.N_slice hnd
      have hvd : vd = .slice Ad 1 cd := hvd
      subst hvd
      have ND := Aside0.mk (Kd.N_lower hnd L9.out.size)
      have LD := Aside0.mk (L9.out.trans (hbd.mono L9.out.size))
      clear hnd
      refine hK.out _ _ ⟨(blk_cell (blk_below B2_9.out LD.out) 4).trans rfl, (blk_cell (blk_below B3_9.out LD.out) 0).trans rfl, (blk_cell (blk_below B3_9.out LD.out) 1).trans rfl⟩ (fun hHeld => ?_)
      clear hK K
      refine norm_ (a' := ?_) ?_ ?_
      rotate_left
      ·show Act.put _ (some 53) _ = _
       simp only [Act.put, sA, sZ, sS, i64_w, i32_w]
       rfl
      refine one_ (i := 0) (N := some 48) #[t_,t_,t_,f_,t_,t_,f_,f_,f_] rfl rfl (one_of HT_.out (by kernel_rfl)) (by decide) (fun K hK => ?_)
      refine Kd.N_lit_step k68 (w0 := wd) wd.heap.size 68 (by rfl) (N' := 48) ?hd (xs := ([] : List S68)) (inner := []) (ok := OKX) (okp := fun _ => False) ?hr (Reps.none _ _) (fun _ h => h.elim) (OF.out _ LD.out.size) (Below.refl _ _) (Nat.le_refl _) (by simp) ?_; (case hd => rfl); (case hr => first | (go_simp; done) | (go_simp; rfl))
      intro va wa hna hba _ _
      obtain ⟨Aa, ca, hva⟩ := Kd.N_slice hna
      have hva : va = .slice Aa 0 ca := hva
      subst hva
      have hba_ := Kd.N_base hna
      have hbl_ := hba
      have NA := Aside0.mk (Kd.N_lower hna LD.out.size)
      have LA := Aside0.mk (LD.out.trans (hba.mono LD.out.size))
      clear hna hba
      refine hK.out _ _ ⟨(blk_cell (blk_below B2_9.out LA.out) 4).trans rfl, (blk_cell (blk_below B3_9.out LA.out) 0).trans rfl, (blk_cell (blk_below B3_9.out LA.out) 1).trans rfl⟩ (fun hHeld => ?_)
      have ND2 := Aside0.mk (Kd.N_elder' ND.out (u := .slice Aa 0 ca) hba_ hbl_)
      clear hba_ hbl_
      clear hK K
      refine norm_ (a' := ?_) ?_ ?_
      rotate_left
      ·show Act.put _ (some 48) _ = _
       simp only [Act.put, sA, sZ, sS, i64_w, i32_w]
       rfl
      refine one_ (i := 3) (N := some 51) #[t_,t_,t_,t_,t_,t_,f_,f_,f_] rfl rfl (one_of HT_.out (by kernel_rfl)) (by decide) (fun K hK => ?_)
      refine Kd.N_append_rows_step k68 (w0 := w9) w9.heap.size (by rfl) (.tmp 48) (.tmp 50) 66 68 (.agg #[(.int .i64 0), (.slice none 0 0)]) 32 rfl Try.underlying66 Go.Proofs.Ytccjdefhieilpaa.PL.info68 rfl (by decide) (by omega) (.slice Aa 0 ca) ([] : List S68) v.l Al v.l.length cl OKX (fun k => (PL k ∧ some k ≠ (Value.slice Ar (wS d.ws).length cr).ownBlock) ∧ k < w.heap.size) rfl rfl NA.out (Kd.V_F (Kd.V_below V9.out LA.out)) (fun k hk => ⟨OP.out k hk, fun e_ => by have h1 := Kd.N_base NA.out k e_.symm; have h2 := hk.2; have h3 := S59.out; omega⟩) (fun k hk => OF.out k (Nat.le_trans LA.out.size hk)) LA.out LA.out.size (by have h1 := HVL.out; show (0 + v.l.length) * 32 ≤ _; omega) ?_
      intro vb wb hnb hbb hgb hatb
      have hnb : Kd.N k68 68 wb w9.heap.size OKX vb v.l := hnb
      obtain ⟨Ab, cb2, hvb⟩ := Kd.N_slice hnb
      subst hvb
      have NB := Aside0.mk hnb
      have LB := Aside0.mk hbb
      clear hnb hbb
      refine hK.out _ _ ⟨(blk_cell (blk_below B2_9.out LB.out) 4).trans rfl, (blk_cell (blk_below B3_9.out LB.out) 0).trans rfl, (blk_cell (blk_below B3_9.out LB.out) 1).trans rfl⟩ (fun hHeld => ?_)
      have ND3 := Kd.N_after ND2.out hgb hatb
      clear hK K
      refine norm_ (a' := ?_) ?_ ?_
      rotate_left
      ·show Act.put _ (some 51) _ = _
       simp only [Act.put, sA, sZ, sS, i64_w, i32_w]
       rfl
      exact norm_ (by simp only [putAll, Act.put, sA, sZ, sS]) (hCont (.slice Aa 0 ca, .slice Ab v.l.length cb2, .slice Ad 1 cd) _ ⟨hHeld, NB, ⟨ND3⟩, LB⟩)
    rintro s_ w10 ⟨hHeld, N1, N2, L10⟩
    obtain ⟨v48, v51, v53⟩ := s_
    have N1 := Aside0.mk (show Kd.N k68 68 w10 w9.heap.size OKX v51 v.l from N1.out)
    have N2 := Aside0.mk (show Kd.N k68 68 w10 w9.heap.size (fun k => OKX k ∧ some k ≠ v51.ownBlock) v53 [e] from N2.out)
    obtain ⟨Ab, cb2, hvb⟩ := Kd.N_slice N1.out
    subst hvb
    obtain ⟨Ad, cd, hvd⟩ := Kd.N_slice N2.out
    have hvd : v53 = .slice Ad 1 cd := hvd
    subst hvd
    refine norm_ (a' := ?_) ?_ ?_
    rotate_left
    ·simp only [putAll, Act.put, sA, sZ, sS]
     rfl
    refine one_ (i := 6) (N := some 54) #[t_,t_,t_,t_,t_,t_,t_,f_,f_] rfl rfl (one_of HT_.out (by kernel_rfl)) (by decide) (fun K hK => ?_)
    refine Kd.N_append_rows_step k68 (w0 := w9) w9.heap.size (by rfl) (.tmp 51) (.tmp 53) 66 68 (.agg #[(.int .i64 0), (.slice none 0 0)]) 32 rfl Try.underlying66 Go.Proofs.Ytccjdefhieilpaa.PL.info68 rfl (by decide) (by omega) (.slice Ab v.l.length cb2) v.l [e] Ad 1 cd OKX (fun k => OKX k ∧ some k ≠ (Value.slice Ab v.l.length cb2).ownBlock) rfl rfl N1.out (Kd.N_F N2.out) (fun k hk => hk) (fun k hk => OF.out k (Nat.le_trans L10.out.size hk)) L10.out L10.out.size (by have h1 := HVL.out; omega) ?_
    intro vc wc hnc hbc _ _
    obtain ⟨Ac, cc, hvc⟩ := Kd.N_slice hnc
    subst hvc
    rw [HOKX.out] at hnc
    have NC := Aside0.mk hnc
    have LC := Aside0.mk hbc
    have B2c := Aside0.mk (blk_below B2_9.out hbc)
    have B3c := blk_below B3_9.out hbc
    clear hnc hbc
    refine hK.out _ _ ⟨(blk_cell B2c.out 4).trans rfl, (blk_cell B3c 0).trans rfl, (blk_cell B3c 1).trans rfl⟩ (fun hHeld => ?_)
    clear hK K
    refine norm_ (a' := ?_) ?_ ?_
    rotate_left
    ·show Act.put _ (some 54) _ = _
     simp only [Act.put, sA, sZ, sS, i64_w, i32_w]
     rfl
    clear B3c
    refine pure_ (i := 7) (N := some 55) (v := ?_) (a' := ?_) #[t_,t_,t_,t_,t_,t_,t_,t_,f_] rfl rfl (any_of HT_.out (by kernel_rfl)) (fun _ _ _ h => h) (Or.inl ⟨by rfl, ?_⟩) ?_ ?_
    rotate_left
    ·intro w'
     go_simp
     with_reducible rfl
    rotate_left
    ·simp only [Act.put, sA, sZ, sS, i64_w, i32_w]
     rfl
    refine last_ (i := 8) (N := none) #[t_,t_,t_,t_,t_,t_,t_,t_,t_] rfl rfl (one_of HT_.out (by kernel_rfl)) (by decide) (fun K hK => ?_)
    have hs1 := (blk_cell B2c.out 4).trans rfl
    have hfs1 := blk_frozen B2c.out 4
    refine skip_ (w1 := wc.setCell ⟨g2, 4, none⟩ (.slice Ac (v.l ++ [e]).length cc)) (by rfl) rfl ?_ ?_
    ·go_simp
    refine hK.out _ _ ?_
    clear hK K
    refine done_ (done_of HT_.out (by kernel_rfl)) ?_
    have B2d := Aside0.mk (blk_put B2c.out 4 (.slice Ac (v.l ++ [e]).length cc) rfl)
    have KD := Aside0.mk (show Kept wc (wc.setCell ⟨g2, 4, none⟩ (.slice Ac (v.l ++ [e]).length cc)) (fun k => k = g2) from (Kept.refl wc (fun k => k = g2)).setCell (.inl rfl) _)
    have BWC := below_step BW9.out LC.out
    have BWD := Aside0.mk (show Below w0.heap.size w0 (wc.setCell ⟨g2, 4, none⟩ (.slice Ac (v.l ++ [e]).length cc)) from BWC.setCell (p := ⟨g2, 4, none⟩) GE2.out _)
    clear hs1 hfs1 BWC
    generalize wc.setCell ⟨g2, 4, none⟩ (.slice Ac (v.l ++ [e]).length cc) = wd at B2d KD BWD ⊢
    have hg5 : wd.cell? ⟨g2, 5, none⟩ = some (.int .i64 v.en) := (blk_cell B2d.out 5).trans rfl
    have hgf5 := blk_frozen B2d.out 5
    go_wp2_with (first | ((with_reducible refine gate_store (t := 3) (p := 61) rfl ?_); refine store_event (t := 3) (p := 61) (v := .tmp 60) (w1 := (wd.setCell ⟨g2, 5, none⟩ (.int .i64 (wrap64 (v.en + (fr.length : Int)))))) ?hg ?ho ?hn ?hr ?_; (case ho => rfl); (case hg => rfl); (case hn => rfl); (case hr => first | (go_simp; done) | (go_simp; rfl)); intro we hw3; have B2e := Aside0.mk (show we.heap[g2]? = some (.cells #[.string (strOfNums dz.b), .slice A5 (wS dz.ws).length c5, .bool dz.dead, .int .i64 arm', .slice Ac (v.l ++ [e]).length cc, .int .i64 (wrap64 (v.en + (fr.length : Int))), .bool false] 140 (0, 0)) by rw [hw3]; exact blk_put B2d.out 5 _ rfl); have KE := Aside0.mk (show Kept wd we (fun k => k = g2) by rw [hw3]; exact (Kept.refl wd (fun k => k = g2)).setCell (.inl rfl) _); have BWE := Aside0.mk (show Below w0.heap.size w0 we by rw [hw3]; exact BWD.out.setCell (p := ⟨g2, 5, none⟩) GE2.out _); clear hw3 hg5 hgf5; have B4e := Aside0.mk (blk_kept (blk_kept (blk_below B4_9.out LC.out) KD.out (fun h => by have h1 := G23.out; have h2 := G34.out; omega)) KE.out (fun h => by have h1 := G23.out; have h2 := G34.out; omega)); have hcg20 : we.cell? ⟨g2, 0, none⟩ = some (.string (strOfNums dz.b)) := (blk_cell B2e.out 0).trans rfl; have hcg21 : we.cell? ⟨g2, 1, none⟩ = some (.slice A5 (wS dz.ws).length c5) := (blk_cell B2e.out 1).trans rfl; have hcg22 : we.cell? ⟨g2, 2, none⟩ = some (.bool dz.dead) := (blk_cell B2e.out 2).trans rfl; have hcg23 : we.cell? ⟨g2, 3, none⟩ = some (.int .i64 arm') := (blk_cell B2e.out 3).trans rfl; have hcg24 : we.cell? ⟨g2, 4, none⟩ = some (.slice Ac (v.l ++ [e]).length cc) := (blk_cell B2e.out 4).trans rfl; have hcg25 : we.cell? ⟨g2, 5, none⟩ = some (.int .i64 (wrap64 (v.en + (fr.length : Int)))) := (blk_cell B2e.out 5).trans rfl; have hcg26 : we.cell? ⟨g2, 6, none⟩ = some (.bool false) := (blk_cell B2e.out 6).trans rfl; have hcg40 : we.cell? ⟨g4, 0, none⟩ = some (.string (⟨#[]⟩ : ByteArray)) := (blk_cell B4e.out 0).trans rfl; have hcg41 : we.cell? ⟨g4, 1, none⟩ = some (.slice none 0 0) := (blk_cell B4e.out 1).trans rfl; have hcg42 : we.cell? ⟨g4, 2, none⟩ = some (.bool false) := (blk_cell B4e.out 2).trans rfl; have hcg43 : we.cell? ⟨g4, 3, none⟩ = some (.int .i64 0) := (blk_cell B4e.out 3).trans rfl; have hcg44 : we.cell? ⟨g4, 4, none⟩ = some (.slice none 0 0) := (blk_cell B4e.out 4).trans rfl; have hcg45 : we.cell? ⟨g4, 5, none⟩ = some (.int .i64 0) := (blk_cell B4e.out 5).trans rfl; have hcg46 : we.cell? ⟨g4, 6, none⟩ = some (.bool false) := (blk_cell B4e.out 6).trans rfl; have hfg40 := blk_frozen B4e.out 0; have hfg41 := blk_frozen B4e.out 1; have hfg42 := blk_frozen B4e.out 2; have hfg43 := blk_frozen B4e.out 3; have hfg44 := blk_frozen B4e.out 4; have hfg45 := blk_frozen B4e.out 5; have hfg46 := blk_frozen B4e.out 6) | ((with_reducible refine gate_store (t := 140) (p := 4) rfl ?_); refine store_event (t := 140) (p := 4) (v := .tmp 62) (w1 := (((((((we.setCell ⟨g4, 0, none⟩ (.string (strOfNums dz.b))).setCell ⟨g4, 1, none⟩ (.slice A5 (wS dz.ws).length c5)).setCell ⟨g4, 2, none⟩ (.bool dz.dead)).setCell ⟨g4, 3, none⟩ (.int .i64 arm')).setCell ⟨g4, 4, none⟩ (.slice Ac (v.l ++ [e]).length cc)).setCell ⟨g4, 5, none⟩ (.int .i64 (wrap64 (v.en + (fr.length : Int))))).setCell ⟨g4, 6, none⟩ (.bool false))) ?hg ?ho ?hn ?hr ?_; (case ho => rfl); (case hg => rfl); (case hn => rfl); (case hr => first | (go_simp; done) | (go_simp; rfl)); intro wf hw3; have BF := Aside0.mk (show wf.heap[g4]? = some (.cells #[.string (strOfNums dz.b), .slice A5 (wS dz.ws).length c5, .bool dz.dead, .int .i64 arm', .slice Ac (v.l ++ [e]).length cc, .int .i64 (wrap64 (v.en + (fr.length : Int))), .bool false] 140 (0, 0)) by rw [hw3]; exact (blk_put (blk_put (blk_put (blk_put (blk_put (blk_put (blk_put B4e.out 0 _ rfl) 1 _ rfl) 2 _ rfl) 3 _ rfl) 4 _ rfl) 5 _ rfl) 6 _ rfl)); have K4 := Aside0.mk (show Kept we wf (fun k => k = g4) by rw [hw3]; exact ((((((((Kept.refl we (fun k => k = g4)).setCell (.inl rfl) _).setCell (.inl rfl) _).setCell (.inl rfl) _).setCell (.inl rfl) _).setCell (.inl rfl) _).setCell (.inl rfl) _).setCell (.inl rfl) _)); have BW := Aside0.mk (show Below w0.heap.size w0 wf by rw [hw3]; exact (((((((BWE.out.setCell (p := ⟨g4, 0, none⟩) GE4.out _).setCell (p := ⟨g4, 1, none⟩) GE4.out _).setCell (p := ⟨g4, 2, none⟩) GE4.out _).setCell (p := ⟨g4, 3, none⟩) GE4.out _).setCell (p := ⟨g4, 4, none⟩) GE4.out _).setCell (p := ⟨g4, 5, none⟩) GE4.out _).setCell (p := ⟨g4, 6, none⟩) GE4.out _)); clear hw3))
    refine bodyPost_ret (results_ct rfl _ _ g4 140 #[.string (strOfNums dz.b), .slice A5 (wS dz.ws).length c5, .bool dz.dead, .int .i64 arm', .slice Ac (v.l ++ [e]).length cc, .int .i64 (wrap64 (v.en + (fr.length : Int))), .bool false] (0, 0) _ rfl BF.out Try.underlying140 rfl (by kernel_rfl)) rfl ?_
    have hR1 := Kd.R_step (Kd.R_step (Kd.R_step (Kd.R_below R9.out LC.out) (fun k hk hlt => KD.out.2 k hlt (O5.out k hk.symm).2.2.2.1)) (fun k hk hlt => KE.out.2 k hlt (O5.out k hk.symm).2.2.2.1)) (fun k hk hlt => K4.out.2 k hlt (O5.out k hk.symm).2.2.2.2.2)
    have hV0 : Kd.V k68 68 wc w0.heap.size (fun k => (((PL k ∨ k < w0.heap.size ∨ w.heap.size ≤ k) ∧ some k ≠ (Value.slice A5 (wS dz.ws).length c5).ownBlock) ∧ k ≠ g2) ∧ k ≠ g4) (.slice Ac (v.l ++ [e]).length cc) (v.l ++ [e]) := Kd.N_V NC.out
    have hV1 := Kd.V_kept (Kd.V_kept (Kd.V_kept hV0 KD.out (fun k hk => hk.1.2)) KE.out (fun k hk => hk.1.2)) K4.out (fun k hk => hk.2)
    have KW := (((K9.out.then_ (Kept.of_below LC.out (fun _ => False)) (fun _ h => h.elim)).then_ KD.out (fun k hk => .inr (by rw [hk]; exact GW2.out))).then_ KE.out (fun k hk => .inr (by rw [hk]; exact GW2.out))).then_ K4.out (fun k hk => .inr (by rw [hk]; exact GW4.out))
    exact ⟨_, _, arm', by rw [hE.out]; rfl, by rw [hE.out]; exact Kd.R_mono hR1 (fun k hk => (O5.out k hk.symm).1), by rw [hE.out]; exact Kd.V_mono hV1 (fun k hk => ⟨hk.1.1.1.elim (fun h => .inl (.inr (.inl h))) (fun h => h.elim (fun h => .inl (.inr (.inr h))) .inr), hk.1.1.2⟩), BW.out, KW, by rw [hE.out]; exact HA5.out⟩
   ·have cb4 : (qz != 0) = true := bne_iff_ne.mpr c4
    have hE := Aside0.mk (show appendV d v e = (dz, ⟨v.l, v.en, true⟩, qz) by unfold appendV; rw [if_neg (by rw [HD.out]; decide), if_pos (show Spec.rightE (p68 e) from c), HFL.out, if_neg (by have := C3.out; omega), if_neg (by rw [← HQZ.out]; exact c4), ← HDZ.out, ← HQZ.out])
    go_wp2_with (first | ((with_reducible refine gate_dst (N := 8) rfl ?_); refine box_event ?hg (N := 8) ?hd (cs := #[.string (⟨#[]⟩ : ByteArray), .slice none 0 0, .bool false, .int .i64 0]) (t := 89) ?hr ?_; (case hd => rfl); (case hg => rfl); (case hr => first | (go_simp; done) | (go_simp; rfl)); intro g8 hgx w6 hbox hb; have B8 := Aside0.mk hbox; have X8 := Aside0.mk hb; have G8 := Aside0.mk hgx; have hcg80 : w6.cell? ⟨g8, 0, none⟩ = some (.string (⟨#[]⟩ : ByteArray)) := (blk_cell B8.out 0).trans rfl; have hcg81 : w6.cell? ⟨g8, 1, none⟩ = some (.slice none 0 0) := (blk_cell B8.out 1).trans rfl; have hcg82 : w6.cell? ⟨g8, 2, none⟩ = some (.bool false) := (blk_cell B8.out 2).trans rfl; have hcg83 : w6.cell? ⟨g8, 3, none⟩ = some (.int .i64 0) := (blk_cell B8.out 3).trans rfl; have hfg80 := blk_frozen B8.out 0; have hfg81 := blk_frozen B8.out 1; have hfg82 := blk_frozen B8.out 2; have hfg83 := blk_frozen B8.out 3; clear hbox hb hgx) | ((with_reducible refine gate_store (t := 89) (p := 8) rfl ?_); refine store_event (t := 89) (p := 8) (v := .tmp 39) (w1 := ((((w6.setCell ⟨g8, 0, none⟩ (.string (strOfNums dz.b))).setCell ⟨g8, 1, none⟩ (.slice A5 (wS dz.ws).length c5)).setCell ⟨g8, 2, none⟩ (.bool dz.dead)).setCell ⟨g8, 3, none⟩ (.int .i64 arm'))) ?hg ?ho ?hn ?hr ?_; (case ho => rfl); (case hg => rfl); (case hn => rfl); (case hr => first | (go_simp; done) | (go_simp; rfl)); intro w7 hw3; have hb7 : Below w5.heap.size w5 w7 := (by rw [hw3]; exact ((((X8.out.setCell (p := ⟨g8, 0, none⟩) (by rw [G8.out]; exact Nat.le_refl _) _).setCell (p := ⟨g8, 1, none⟩) (by rw [G8.out]; exact Nat.le_refl _) _).setCell (p := ⟨g8, 2, none⟩) (by rw [G8.out]; exact Nat.le_refl _) _).setCell (p := ⟨g8, 3, none⟩) (by rw [G8.out]; exact Nat.le_refl _) _)); have B8_7 := Aside0.mk (show w7.heap[g8]? = some (.cells #[.string (strOfNums dz.b), .slice A5 (wS dz.ws).length c5, .bool dz.dead, .int .i64 arm'] 89 (0, 0)) by rw [hw3]; exact (blk_put (blk_put (blk_put (blk_put B8.out 0 _ rfl) 1 _ rfl) 2 _ rfl) 3 _ rfl)); have B2_7 := Aside0.mk (blk_below B2_5.out hb7); have B3_7 := Aside0.mk (blk_below B3_5.out hb7); have B4_7 := Aside0.mk (blk_below B4_5.out hb7); have L57 := Aside0.mk hb7; clear hw3 hb7 hcg80 hcg81 hcg82 hcg83 hfg80 hfg81 hfg82 hfg83; have hcg80 : w7.cell? ⟨g8, 0, none⟩ = some (.string (strOfNums dz.b)) := (blk_cell B8_7.out 0).trans rfl; have hcg81 : w7.cell? ⟨g8, 1, none⟩ = some (.slice A5 (wS dz.ws).length c5) := (blk_cell B8_7.out 1).trans rfl; have hcg82 : w7.cell? ⟨g8, 2, none⟩ = some (.bool dz.dead) := (blk_cell B8_7.out 2).trans rfl; have hcg83 : w7.cell? ⟨g8, 3, none⟩ = some (.int .i64 arm') := (blk_cell B8_7.out 3).trans rfl; have hcg20 : w7.cell? ⟨g2, 0, none⟩ = some (.string (strOfNums d.b)) := (blk_cell B2_7.out 0).trans rfl; have hcg21 : w7.cell? ⟨g2, 1, none⟩ = some (.slice Ar (wS d.ws).length cr) := (blk_cell B2_7.out 1).trans rfl; have hcg22 : w7.cell? ⟨g2, 2, none⟩ = some (.bool d.dead) := (blk_cell B2_7.out 2).trans rfl; have hcg23 : w7.cell? ⟨g2, 3, none⟩ = some (.int .i64 arm) := (blk_cell B2_7.out 3).trans rfl; have hfg20 := blk_frozen B2_7.out 0; have hfg21 := blk_frozen B2_7.out 1; have hfg22 := blk_frozen B2_7.out 2; have hfg23 := blk_frozen B2_7.out 3; have BW7 := Aside0.mk (BW5.out.trans (L57.out.mono (Nat.le_trans BW5.out.size (Nat.le_refl _))))) | ((with_reducible refine gate_store (t := 89) (p := 42) rfl ?_); refine store_event (t := 89) (p := 42) (v := .tmp 41) (w1 := ((((w7.setCell ⟨g2, 0, none⟩ (.string (strOfNums dz.b))).setCell ⟨g2, 1, none⟩ (.slice A5 (wS dz.ws).length c5)).setCell ⟨g2, 2, none⟩ (.bool dz.dead)).setCell ⟨g2, 3, none⟩ (.int .i64 arm'))) ?hg ?ho ?hn ?hr ?_; (case ho => rfl); (case hg => rfl); (case hn => rfl); (case hr => first | (go_simp; done) | (go_simp; rfl)); intro w8 hw3; have B2_8 := Aside0.mk (show w8.heap[g2]? = some (.cells #[.string (strOfNums dz.b), .slice A5 (wS dz.ws).length c5, .bool dz.dead, .int .i64 arm', .slice Al v.l.length cl, .int .i64 v.en, .bool false] 140 (0, 0)) by rw [hw3]; exact (blk_put (blk_put (blk_put (blk_put B2_7.out 0 _ rfl) 1 _ rfl) 2 _ rfl) 3 _ rfl)); have K8 := Aside0.mk (show Kept w7 w8 (fun k => k = g2) by rw [hw3]; exact (((((Kept.refl w7 (fun k => k = g2)).setCell (.inl rfl) _).setCell (.inl rfl) _).setCell (.inl rfl) _).setCell (.inl rfl) _)); have BW8 := Aside0.mk (show Below w0.heap.size w0 w8 by rw [hw3]; exact ((((BW7.out.setCell (p := ⟨g2, 0, none⟩) GE2.out _).setCell (p := ⟨g2, 1, none⟩) GE2.out _).setCell (p := ⟨g2, 2, none⟩) GE2.out _).setCell (p := ⟨g2, 3, none⟩) GE2.out _)); clear hw3 hcg80 hcg81 hcg82 hcg83 hcg20 hcg21 hcg22 hcg23 hfg20 hfg21 hfg22 hfg23; have B3_8 := Aside0.mk (blk_kept B3_7.out K8.out (fun h => by have := G23.out; omega)); have B4_8 := Aside0.mk (blk_kept B4_7.out K8.out (fun h => by have h1 := G23.out; have h2 := G34.out; omega)); have R8 := Aside0.mk (Kd.R_step (Kd.R_below R5.out L57.out) (fun k hk hlt => K8.out.2 k hlt (O5.out k hk.symm).2.2.2.1)); have V8 := Aside0.mk (Kd.V_kept (Kd.V_below V5.out L57.out) K8.out (fun k hk => by have h1 := hk.2; have h2 := GW2.out; omega)); have F8 := Aside0.mk (Kd.F_kept (Kd.F_below F5.out L57.out) K8.out (fun k hk => by have h1 : k < w0.heap.size := hk; have h2 := GE2.out; omega)); have K8_ := Aside0.mk ((K5.out.then_ (Kept.of_below L57.out (fun _ => False)) (fun _ h => h.elim)).then_ K8.out (fun k hk => .inr (by rw [hk]; exact GW2.out))); have S8 := Aside0.mk (Nat.le_trans L57.out.size K8.out.1); clear R5 V5 F5 K5 BW5 BW7 B2_5 B3_5 B4_5 B2_7 B3_7 B4_7 B8_7 B8 X8 G8; have hcg26 : w8.cell? ⟨g2, 6, none⟩ = some (.bool false) := (blk_cell B2_8.out 6).trans rfl; have hfg26 := blk_frozen B2_8.out 6) | ((with_reducible refine gate_store (t := 4) (p := 45) rfl ?_); refine store_event (t := 4) (p := 45) (v := .const (.bool true)) (w1 := (w8.setCell ⟨g2, 6, none⟩ (.bool true))) ?hg ?ho ?hn ?hr ?_; (case ho => rfl); (case hg => rfl); (case hn => rfl); (case hr => first | (go_simp; done) | (go_simp; rfl)); intro w9 hw3; have B2_9 := Aside0.mk (show w9.heap[g2]? = some (.cells #[.string (strOfNums dz.b), .slice A5 (wS dz.ws).length c5, .bool dz.dead, .int .i64 arm', .slice Al v.l.length cl, .int .i64 v.en, .bool true] 140 (0, 0)) by rw [hw3]; exact blk_put B2_8.out 6 _ rfl); have K9 := Aside0.mk (show Kept w8 w9 (fun k => k = g2) by rw [hw3]; exact (Kept.refl w8 (fun k => k = g2)).setCell (.inl rfl) _); have BW9 := Aside0.mk (show Below w0.heap.size w0 w9 by rw [hw3]; exact BW8.out.setCell (p := ⟨g2, 6, none⟩) GE2.out _); clear hw3 hcg26 hfg26; have B4_9 := Aside0.mk (blk_kept B4_8.out K9.out (fun h => by have h1 := G23.out; have h2 := G34.out; omega)); have hcg20 : w9.cell? ⟨g2, 0, none⟩ = some (.string (strOfNums dz.b)) := (blk_cell B2_9.out 0).trans rfl; have hcg21 : w9.cell? ⟨g2, 1, none⟩ = some (.slice A5 (wS dz.ws).length c5) := (blk_cell B2_9.out 1).trans rfl; have hcg22 : w9.cell? ⟨g2, 2, none⟩ = some (.bool dz.dead) := (blk_cell B2_9.out 2).trans rfl; have hcg23 : w9.cell? ⟨g2, 3, none⟩ = some (.int .i64 arm') := (blk_cell B2_9.out 3).trans rfl; have hcg24 : w9.cell? ⟨g2, 4, none⟩ = some (.slice Al v.l.length cl) := (blk_cell B2_9.out 4).trans rfl; have hcg25 : w9.cell? ⟨g2, 5, none⟩ = some (.int .i64 v.en) := (blk_cell B2_9.out 5).trans rfl; have hcg26 : w9.cell? ⟨g2, 6, none⟩ = some (.bool true) := (blk_cell B2_9.out 6).trans rfl; have hcg40 : w9.cell? ⟨g4, 0, none⟩ = some (.string (⟨#[]⟩ : ByteArray)) := (blk_cell B4_9.out 0).trans rfl; have hcg41 : w9.cell? ⟨g4, 1, none⟩ = some (.slice none 0 0) := (blk_cell B4_9.out 1).trans rfl; have hcg42 : w9.cell? ⟨g4, 2, none⟩ = some (.bool false) := (blk_cell B4_9.out 2).trans rfl; have hcg43 : w9.cell? ⟨g4, 3, none⟩ = some (.int .i64 0) := (blk_cell B4_9.out 3).trans rfl; have hcg44 : w9.cell? ⟨g4, 4, none⟩ = some (.slice none 0 0) := (blk_cell B4_9.out 4).trans rfl; have hcg45 : w9.cell? ⟨g4, 5, none⟩ = some (.int .i64 0) := (blk_cell B4_9.out 5).trans rfl; have hcg46 : w9.cell? ⟨g4, 6, none⟩ = some (.bool false) := (blk_cell B4_9.out 6).trans rfl; have hfg40 := blk_frozen B4_9.out 0; have hfg41 := blk_frozen B4_9.out 1; have hfg42 := blk_frozen B4_9.out 2; have hfg43 := blk_frozen B4_9.out 3; have hfg44 := blk_frozen B4_9.out 4; have hfg45 := blk_frozen B4_9.out 5; have hfg46 := blk_frozen B4_9.out 6) | ((with_reducible refine gate_store (t := 140) (p := 4) rfl ?_); refine store_event (t := 140) (p := 4) (v := .tmp 46) (w1 := (((((((w9.setCell ⟨g4, 0, none⟩ (.string (strOfNums dz.b))).setCell ⟨g4, 1, none⟩ (.slice A5 (wS dz.ws).length c5)).setCell ⟨g4, 2, none⟩ (.bool dz.dead)).setCell ⟨g4, 3, none⟩ (.int .i64 arm')).setCell ⟨g4, 4, none⟩ (.slice Al v.l.length cl)).setCell ⟨g4, 5, none⟩ (.int .i64 v.en)).setCell ⟨g4, 6, none⟩ (.bool true))) ?hg ?ho ?hn ?hr ?_; (case ho => rfl); (case hg => rfl); (case hn => rfl); (case hr => first | (go_simp; done) | (go_simp; rfl)); intro wf hw3; have BF := Aside0.mk (show wf.heap[g4]? = some (.cells #[.string (strOfNums dz.b), .slice A5 (wS dz.ws).length c5, .bool dz.dead, .int .i64 arm', .slice Al v.l.length cl, .int .i64 v.en, .bool true] 140 (0, 0)) by rw [hw3]; exact (blk_put (blk_put (blk_put (blk_put (blk_put (blk_put (blk_put B4_9.out 0 _ rfl) 1 _ rfl) 2 _ rfl) 3 _ rfl) 4 _ rfl) 5 _ rfl) 6 _ rfl)); have K4 := Aside0.mk (show Kept w9 wf (fun k => k = g4) by rw [hw3]; exact ((((((((Kept.refl w9 (fun k => k = g4)).setCell (.inl rfl) _).setCell (.inl rfl) _).setCell (.inl rfl) _).setCell (.inl rfl) _).setCell (.inl rfl) _).setCell (.inl rfl) _).setCell (.inl rfl) _)); have BW := Aside0.mk (show Below w0.heap.size w0 wf by rw [hw3]; exact (((((((BW9.out.setCell (p := ⟨g4, 0, none⟩) GE4.out _).setCell (p := ⟨g4, 1, none⟩) GE4.out _).setCell (p := ⟨g4, 2, none⟩) GE4.out _).setCell (p := ⟨g4, 3, none⟩) GE4.out _).setCell (p := ⟨g4, 4, none⟩) GE4.out _).setCell (p := ⟨g4, 5, none⟩) GE4.out _).setCell (p := ⟨g4, 6, none⟩) GE4.out _)); clear hw3))
    refine bodyPost_ret (results_ct rfl _ _ g4 140 #[.string (strOfNums dz.b), .slice A5 (wS dz.ws).length c5, .bool dz.dead, .int .i64 arm', .slice Al v.l.length cl, .int .i64 v.en, .bool true] (0, 0) _ rfl BF.out Try.underlying140 rfl (by kernel_rfl)) rfl ?_
    have hR1 := Kd.R_step (Kd.R_step R8.out (fun k hk hlt => K9.out.2 k hlt (O5.out k hk.symm).2.2.2.1)) (fun k hk hlt => K4.out.2 k hlt (O5.out k hk.symm).2.2.2.2.2)
    have hV1 := Kd.V_kept (Kd.V_kept V8.out K9.out (fun k hk => by have h1 := hk.2; have h2 := GW2.out; omega)) K4.out (fun k hk => by have h1 := hk.2; have h2 := GW4.out; omega)
    have KW := (K8_.out.then_ K9.out (fun k hk => .inr (by rw [hk]; exact GW2.out))).then_ K4.out (fun k hk => .inr (by rw [hk]; exact GW4.out))
    exact ⟨_, _, arm', by rw [hE.out]; rfl, by rw [hE.out]; exact Kd.R_mono hR1 (fun k hk => (O5.out k hk.symm).1), by rw [hE.out]; exact Kd.V_mono hV1 (fun k hk => ⟨.inl (.inr (.inl hk.1.1)), fun e => (O5.out k e.symm).1.elim hk.1.2 (fun h => by have := hk.2; omega)⟩), BW.out, KW, by rw [hE.out]; exact HA5.out⟩
 ·have hE := Aside0.mk (show appendV d v e = (d, v, 2) by unfold appendV; rw [if_neg (by rw [HD.out]; decide), if_neg (show ¬ Spec.rightE (p68 e) from c)])
  have hq := HQ.out
  rw [if_neg c] at hq
  obtain ⟨hq1, hq2⟩ := Prod.mk.inj hq
  subst hq1
  subst hq2
  clear hq HQ
  have hcg20 : w4.cell? ⟨g2, 0, none⟩ = some (.string (strOfNums d.b)) := (blk_cell B2_4.out 0).trans rfl
  have hcg21 : w4.cell? ⟨g2, 1, none⟩ = some (.slice Ar (wS d.ws).length cr) := (blk_cell B2_4.out 1).trans rfl
  have hcg22 : w4.cell? ⟨g2, 2, none⟩ = some (.bool d.dead) := (blk_cell B2_4.out 2).trans rfl
  have hcg23 : w4.cell? ⟨g2, 3, none⟩ = some (.int .i64 arm) := (blk_cell B2_4.out 3).trans rfl
  have hcg24 : w4.cell? ⟨g2, 4, none⟩ = some (.slice Al v.l.length cl) := (blk_cell B2_4.out 4).trans rfl
  have hcg25 : w4.cell? ⟨g2, 5, none⟩ = some (.int .i64 v.en) := (blk_cell B2_4.out 5).trans rfl
  have hcg26 : w4.cell? ⟨g2, 6, none⟩ = some (.bool false) := (blk_cell B2_4.out 6).trans rfl
  have hcg40 : w4.cell? ⟨g4, 0, none⟩ = some (.string (⟨#[]⟩ : ByteArray)) := (blk_cell B4_4.out 0).trans rfl
  have hcg41 : w4.cell? ⟨g4, 1, none⟩ = some (.slice none 0 0) := (blk_cell B4_4.out 1).trans rfl
  have hcg42 : w4.cell? ⟨g4, 2, none⟩ = some (.bool false) := (blk_cell B4_4.out 2).trans rfl
  have hcg43 : w4.cell? ⟨g4, 3, none⟩ = some (.int .i64 0) := (blk_cell B4_4.out 3).trans rfl
  have hcg44 : w4.cell? ⟨g4, 4, none⟩ = some (.slice none 0 0) := (blk_cell B4_4.out 4).trans rfl
  have hcg45 : w4.cell? ⟨g4, 5, none⟩ = some (.int .i64 0) := (blk_cell B4_4.out 5).trans rfl
  have hcg46 : w4.cell? ⟨g4, 6, none⟩ = some (.bool false) := (blk_cell B4_4.out 6).trans rfl
  have hfg40 := blk_frozen B4_4.out 0
  have hfg41 := blk_frozen B4_4.out 1
  have hfg42 := blk_frozen B4_4.out 2
  have hfg43 := blk_frozen B4_4.out 3
  have hfg44 := blk_frozen B4_4.out 4
  have hfg45 := blk_frozen B4_4.out 5
  have hfg46 := blk_frozen B4_4.out 6
  go_wp2_with ((with_reducible refine gate_store (t := 140) (p := 4) rfl ?_); refine store_event (t := 140) (p := 4) (v := .tmp 17) (w1 := (((((((w4.setCell ⟨g4, 0, none⟩ (.string (strOfNums d.b))).setCell ⟨g4, 1, none⟩ (.slice Ar (wS d.ws).length cr)).setCell ⟨g4, 2, none⟩ (.bool d.dead)).setCell ⟨g4, 3, none⟩ (.int .i64 arm)).setCell ⟨g4, 4, none⟩ (.slice Al v.l.length cl)).setCell ⟨g4, 5, none⟩ (.int .i64 v.en)).setCell ⟨g4, 6, none⟩ (.bool false))) ?hg ?ho ?hn ?hr ?_; (case ho => rfl); (case hg => rfl); (case hn => rfl); (case hr => first | (go_simp; done) | (go_simp; rfl)); intro wf hw3; have BF := Aside0.mk (show wf.heap[g4]? = some (.cells #[.string (strOfNums d.b), .slice Ar (wS d.ws).length cr, .bool d.dead, .int .i64 arm, .slice Al v.l.length cl, .int .i64 v.en, .bool false] 140 (0, 0)) by rw [hw3]; exact (blk_put (blk_put (blk_put (blk_put (blk_put (blk_put (blk_put B4_4.out 0 _ rfl) 1 _ rfl) 2 _ rfl) 3 _ rfl) 4 _ rfl) 5 _ rfl) 6 _ rfl)); have K4 := Aside0.mk (show Kept w4 wf (fun k => k = g4) by rw [hw3]; exact ((((((((Kept.refl w4 (fun k => k = g4)).setCell (.inl rfl) _).setCell (.inl rfl) _).setCell (.inl rfl) _).setCell (.inl rfl) _).setCell (.inl rfl) _).setCell (.inl rfl) _).setCell (.inl rfl) _)); have BW := Aside0.mk (show Below w0.heap.size w0 wf by rw [hw3]; exact (((((((BW4.out.setCell (p := ⟨g4, 0, none⟩) GE4.out _).setCell (p := ⟨g4, 1, none⟩) GE4.out _).setCell (p := ⟨g4, 2, none⟩) GE4.out _).setCell (p := ⟨g4, 3, none⟩) GE4.out _).setCell (p := ⟨g4, 4, none⟩) GE4.out _).setCell (p := ⟨g4, 5, none⟩) GE4.out _).setCell (p := ⟨g4, 6, none⟩) GE4.out _)); clear hw3)
  refine bodyPost_ret (results_ct rfl _ _ g4 140 #[.string (strOfNums d.b), .slice Ar (wS d.ws).length cr, .bool d.dead, .int .i64 arm, .slice Al v.l.length cl, .int .i64 v.en, .bool false] (0, 0) _ rfl BF.out Try.underlying140 rfl (by kernel_rfl)) rfl ?_
  have RW := Kd.R_step R4.out (fun k hk hlt => K4.out.2 k hlt ((fun k hk => by have h1 := hk.2; have h2 := GW4.out; omega) k hk))
  have VW := Kd.V_kept V4.out K4.out (fun k hk => by have h1 := hk.2; have h2 := GW4.out; omega)
  have KW := K4_.out.then_ K4.out (fun k hk => .inr (by rw [hk]; exact GW4.out))
  exact ⟨.slice Ar (wS d.ws).length cr, .slice Al v.l.length cl, arm, by rw [hE.out]; simp only [HD.out]; rfl, by rw [hE.out]; exact Kd.R_mono RW (fun k hk => .inl hk.1), by rw [hE.out]; exact Kd.V_mono VW (fun k hk => ⟨.inl (.inr (.inl hk.1.1)), hk.1.2⟩), BW.out, KW, by rw [hE.out]; exact HA.out.more (Nat.le_succ _)⟩
end Go.Proofs.Ytccjdefhieilpaa.VT
