/-
 What the law VaultPlays needs of VOpenR (what it does not use is left out by a program of this session, wip/tools/dce.py).
-/
import Derived.Test.YtccjdefhieilpaaRVRefD
import Derived.Test.YtccjdefhieilpaaRVRead
namespace Go.Proofs.Ytccjdefhieilpaa.VT
open Go.RowKit Go.Proofs.YtccjdefhieilpaaW.PrintWords Go.Proofs.YtccjdefhieilpaaW.PrintLast Go.Proofs.YtccjdefhieilpaaW.PrintMore Go.Proofs.Ytccjdefhieilpaa.PB Go.Proofs.Ytccjdefhieilpaa.PL Go.Proofs.Ytccjdefhieilpaa.PG Go.Proofs.Ytccjdefhieilpaa.Pure
attribute [local go_sem] max2_int min2_int max_two min_two max_three min_three max_four min_four   -- for this text's walks alone
set_option linter.unusedVariables false
set_option linter.unusedSimpArgs false
theorem bytesOf_str {x : List Int} (h : Bytes x) : bytesOf (strOfNums x) = x := by
 unfold bytesOf
 rw [strOfNums_data, List.map_map]
 conv => rhs; rw [← List.map_id x]
 refine List.map_congr_left fun n hn => ?_
 have h1 := h n hn
 show ((UInt8.ofNat n.toNat).toNat : Int) = n
 rw [UInt8.toNat_ofNat']
 omega
theorem str_F {x : List Int} {W w' : World} (hh : w'.heap[W.heap.size]? = (Lib.bytesWorld W 5 (strOfNums x)).heap[W.heap.size]?) (hx : Bytes x) (hs : x.length ≤ 9223372036854775807) : Kd.F (Kd.int .u8) w' (fun k => k = W.heap.size) (some ⟨W.heap.size, 0, none⟩) x.length x := fun W' hW => by
 have h := bytes_reads W 5 (strOfNums x) (by rw [strOfNums_size]; exact hs)
 rw [bytesOf_str hx, strOfNums_size] at h
 refine Kd.C_of_reads (d := 0) (h1 := fun _ => rfl) ⟨h.1, h.2.1, fun hp => ?_⟩
 obtain ⟨ad, e, hc⟩ := h.2.2 hp
 injection e with e
 subst e
 refine ⟨_, rfl, fun j hj => ?_⟩
 have hc := hc j hj
 have hlt : W.heap.size < w'.heap.size := by
  rw [Lib.bytesWorld_at_new] at hh
  exact (Array.getElem?_eq_some_iff.1 hh).1
 have hb : W'.heap[W.heap.size]? = (Lib.bytesWorld W 5 (strOfNums x)).heap[W.heap.size]? := (hW W.heap.size rfl hlt).trans hh
 rw [add_at, Nat.zero_add] at hc ⊢
 simpa [World.cell?, hb] using hc
set_option maxHeartbeats 16000000 in
set_option maxRecDepth 100000 in
theorem ropen_calls {w : World} (d : D) (arm : Int) (Ar : Option Addr) (cr : Nat) (hC : Kd.C k166 w Ar (wS d.ws).length (wS d.ws)) (hc : (wS d.ws).length ≤ cr) (hs : d.b.length ≤ 1048576) (hws : d.ws.length ≤ 1000000) (hf : ∀ x ∈ d.ws, 0 ≤ x.f0 ∧ x.f0.toNat + x.f1.length ≤ d.b.length) (hby : Bytes (layAll d.b d.ws)) :
  Calls Try.prog 114 #[.agg #[.string (strOfNums d.b), .slice Ar (wS d.ws).length cr, .bool d.dead, .int .i64 arm]] w fun e w' => ∃ vl, e = .returned (.agg #[.string (strOfNums d.b), .slice Ar (wS d.ws).length cr, .bool d.dead, .int .i64 arm, vl, .int .i64 (readN (layAll d.b d.ws) : Int), .bool false]) ∧
   Kd.V k68 68 w' 0 (fun k => w.heap.size ≤ k) vl (readS (layAll d.b d.ws)) ∧ Below w.heap.size w w' := by
 have HC := Aside0.mk hC
 have HCC := Aside0.mk hc
 have hu89 := Try.underlying89
 have hu140 := Try.underlying140
 obtain ⟨ks, hks⟩ : ∃ ks, 1000001 ≤ ks := ⟨_, Nat.le_refl _⟩
 have HSE := Aside0.mk (rseen_eq hs hws hf ks hks d.dead arm)
 have hll := layAll_length d.ws d.b hf
 obtain ⟨x, hx⟩ : ∃ x, x = layAll d.b d.ws := ⟨_, rfl⟩
 rw [← hx] at HSE hby hll ⊢
 have HBY := Aside0.mk hby
 have HXL := Aside0.mk (show x.length ≤ 1048576 by omega)
 have hsz : (strOfNums x).size = x.length := strOfNums_size x
 obtain ⟨kr, hkr⟩ : ∃ kr, 11 * x.length + 80 ≤ kr := ⟨_, Nat.le_refl _⟩
 have HRE := Aside0.mk (rread_eq kr x hby (by omega) hkr)
 generalize readS x = L at *
 generalize readN x = q at *
 generalize wS d.ws = ws at *
 generalize strOfNums d.b = sb at *
 clear hC hc hs hws hf hby hks hkr hll hx
 have kb := fun W => print_bytes (P := Try.prog) 9 44 5 Try.underlying9 Try.underlying44 Try.underlying5 (strOfNums x) W
 go_enter Try.func114, Try.ntmps114
 go_wp2_with (first | ((with_reducible refine gate_dst (N := 1) rfl ?_); refine box_event ?hg (N := 1) ?hd (cs := #[.string sb, .slice Ar ws.length cr, .bool d.dead, .int .i64 arm]) (t := 89) ?hr ?_; (case hd => rfl); (case hg => rfl); (case hr => first | (go_simp; done) | (go_simp; rfl)); intro g1 hg1 w1 hbox hb; have B1 := Aside0.mk hbox; have HB1 := Aside0.mk hb; have G1 := Aside0.mk (show w.heap.size ≤ g1 by rw [hg1]; exact Nat.le_refl _); clear hbox hb hg1) | ((with_reducible refine gate_dst (N := 2) rfl ?_); refine box_event ?hg (N := 2) ?hd (cs := #[.string (⟨#[]⟩ : ByteArray), .slice none 0 0, .bool false, .int .i64 0, .slice none 0 0, .int .i64 0, .bool false]) (t := 140) ?hr ?_; (case hd => rfl); (case hg => rfl); (case hr => first | (go_simp; done) | (go_simp; rfl)); intro g2 hg2 w2 hbox hb; have B2 := Aside0.mk hbox; have B12 := Aside0.mk (blk_below B1.out hb); have HB2 := Aside0.mk (below_step HB1.out hb); have G2 := Aside0.mk (show w.heap.size ≤ g2 by rw [hg2]; exact HB1.out.size); clear hbox hb hg2; have hc0 : w2.cell? ⟨g1, 0, none⟩ = some (.string sb) := (blk_cell B12.out 0).trans rfl; have hc1 : w2.cell? ⟨g1, 1, none⟩ = some (.slice Ar ws.length cr) := (blk_cell B12.out 1).trans rfl; have hc2 : w2.cell? ⟨g1, 2, none⟩ = some (.bool d.dead) := (blk_cell B12.out 2).trans rfl; have hc3 : w2.cell? ⟨g1, 3, none⟩ = some (.int .i64 arm) := (blk_cell B12.out 3).trans rfl))
 refine (horariumref48_Seen.calls ks sb Ar cr ws d.dead arm _ _ (Kd.C_below HC.out HB2.out) HCC.out HSE.out).mono ?_
 rintro e w3 ⟨rfl, hb3⟩
 have HB3 := Aside0.mk (below_step HB2.out hb3)
 have B13 := Aside0.mk (blk_below B12.out hb3)
 have B23 := Aside0.mk (blk_below B2.out hb3)
 clear hb3 hc0 hc1 hc2 hc3
 go_wp2_with fail
 have HB4 := Aside0.mk (bytes_below (W := w3) HB3.out HB3.out.size 5 (strOfNums x))
 have B34 := Aside0.mk (bytes_below (Below.refl w3.heap.size w3) (Nat.le_refl _) 5 (strOfNums x))
 have B14 := Aside0.mk (blk_below B13.out B34.out)
 have B24 := Aside0.mk (blk_below B23.out B34.out)
 have HF4 := Aside0.mk (str_F (x := x) (W := w3) (w' := Lib.bytesWorld w3 5 (strOfNums x)) rfl HBY.out (by have := HXL.out; omega))
 have HG := Aside0.mk (show x.length ≤ grownCap w3 x.length 0 5 from grownCap_ge _ _ _ _)
 generalize hw4 : Lib.bytesWorld w3 5 (strOfNums x) = w4 at *
 clear kb hw4
 refine (rread2_calls kr _ _ x _ _ w4 (Kd.F_now HF4.out) HG.out HRE.out).mono ?_
 rintro e w5 ⟨vl, rfl, hr5, hb5⟩
 have HV5 := Aside0.mk (lentB_V (base' := 0) hr5 (Kd.F_below HF4.out hb5))
 obtain ⟨Al, cl, hvl⟩ := Kd.R_slice hr5
 have HBA := Aside0.mk (Kd.R_base hr5)
 subst hvl
 have HB5 := Aside0.mk (below_step HB4.out hb5)
 have B15 := Aside0.mk (blk_below B14.out hb5)
 have B25 := Aside0.mk (blk_below B24.out hb5)
 have HB45 := Aside0.mk B34.out.size
 clear hr5 hb5
 have hc0 : w5.cell? ⟨g1, 0, none⟩ = some (.string sb) := (blk_cell B15.out 0).trans rfl
 have hc1 : w5.cell? ⟨g1, 1, none⟩ = some (.slice Ar ws.length cr) := (blk_cell B15.out 1).trans rfl
 have hc2 : w5.cell? ⟨g1, 2, none⟩ = some (.bool d.dead) := (blk_cell B15.out 2).trans rfl
 have hc3 : w5.cell? ⟨g1, 3, none⟩ = some (.int .i64 arm) := (blk_cell B15.out 3).trans rfl
 have hy0 : w5.cell? ⟨g2, 0, none⟩ = some (.string (⟨#[]⟩ : ByteArray)) := (blk_cell B25.out 0).trans rfl
 have hy1 : w5.cell? ⟨g2, 1, none⟩ = some (.slice none 0 0) := (blk_cell B25.out 1).trans rfl
 have hy2 : w5.cell? ⟨g2, 2, none⟩ = some (.bool false) := (blk_cell B25.out 2).trans rfl
 have hy3 : w5.cell? ⟨g2, 3, none⟩ = some (.int .i64 0) := (blk_cell B25.out 3).trans rfl
 have hy4 : w5.cell? ⟨g2, 4, none⟩ = some (.slice none 0 0) := (blk_cell B25.out 4).trans rfl
 have hy5 : w5.cell? ⟨g2, 5, none⟩ = some (.int .i64 0) := (blk_cell B25.out 5).trans rfl
 have hy6 : w5.cell? ⟨g2, 6, none⟩ = some (.bool false) := (blk_cell B25.out 6).trans rfl
 have hz0 := blk_frozen B25.out 0
 have hz1 := blk_frozen B25.out 1
 have hz2 := blk_frozen B25.out 2
 have hz3 := blk_frozen B25.out 3
 have hz4 := blk_frozen B25.out 4
 have hz5 := blk_frozen B25.out 5
 have hz6 := blk_frozen B25.out 6
 go_wp2_with (first | ((with_reducible refine gate_store (t := 140) (p := 2) rfl ?_); refine store_event (t := 140) (p := 2) (v := .tmp 15) (w1 := (((((((w5.setCell ⟨g2, 0, none⟩ (.string sb)).setCell ⟨g2, 1, none⟩ (.slice Ar ws.length cr)).setCell ⟨g2, 2, none⟩ (.bool d.dead)).setCell ⟨g2, 3, none⟩ (.int .i64 arm)).setCell ⟨g2, 4, none⟩ (.slice Al L.length cl)).setCell ⟨g2, 5, none⟩ (.int .i64 (q : Int))).setCell ⟨g2, 6, none⟩ (.bool false))) ?hg ?ho ?hn ?hr ?_; (case ho => rfl); (case hg => rfl); (case hn => rfl); (case hr => first | (go_simp; done) | (go_simp; rfl)); intro w6 hw6; have B6 := Aside0.mk (show w6.heap[g2]? = some (.cells #[.string sb, .slice Ar ws.length cr, .bool d.dead, .int .i64 arm, .slice Al L.length cl, .int .i64 (q : Int), .bool false] 140 (0, 0)) by rw [hw6]; exact blk_put (blk_put (blk_put (blk_put (blk_put (blk_put (blk_put B25.out 0 _ rfl) 1 _ rfl) 2 _ rfl) 3 _ rfl) 4 _ rfl) 5 _ rfl) 6 _ rfl); have HB6 := Aside0.mk (show Below w.heap.size w w6 by rw [hw6]; exact ((((((HB5.out.setCell (p := ⟨g2, 0, none⟩) G2.out _).setCell (p := ⟨g2, 1, none⟩) G2.out _).setCell (p := ⟨g2, 2, none⟩) G2.out _).setCell (p := ⟨g2, 3, none⟩) G2.out _).setCell (p := ⟨g2, 4, none⟩) G2.out _).setCell (p := ⟨g2, 5, none⟩) G2.out _).setCell (p := ⟨g2, 6, none⟩) G2.out _); have hne : ∀ k, (k = w3.heap.size ∨ some k = (Value.slice Al L.length cl).ownBlock) → k ≠ g2 := (fun k hk e => by have h1 := blk_lt B23.out; have h2 := blk_lt B24.out; exact hk.elim (fun hk => by omega) (fun hk => by have h3 := HBA.out k hk.symm; omega)); have HV6 := Aside0.mk (show Kd.V k68 68 w6 0 (fun k => w.heap.size ≤ k) (.slice Al L.length cl) L by rw [hw6]; exact Kd.V_mono (Kd.V_far (p := ⟨g2, 6, none⟩) (Kd.V_far (p := ⟨g2, 5, none⟩) (Kd.V_far (p := ⟨g2, 4, none⟩) (Kd.V_far (p := ⟨g2, 3, none⟩) (Kd.V_far (p := ⟨g2, 2, none⟩) (Kd.V_far (p := ⟨g2, 1, none⟩) (Kd.V_far (p := ⟨g2, 0, none⟩) HV5.out hne _) hne _) hne _) hne _) hne _) hne _) hne _) (fun k hk => by have h1 := HB3.out.size; have h2 := HB4.out.size; exact hk.elim (fun hk => by omega) (fun hk => by have h3 := HBA.out k hk.symm; omega))); clear hw6 hne hy0 hy1 hy2 hy3 hy4 hy5 hy6 hz0 hz1 hz2 hz3 hz4 hz5 hz6 hc0 hc1 hc2 hc3))
 refine bodyPost_ret (results_cell_row rfl _ _ g2 140 #[.string sb, .slice Ar ws.length cr, .bool d.dead, .int .i64 arm, .slice Al L.length cl, .int .i64 (q : Int), .bool false] (0, 0) _ rfl B6.out Try.underlying140 rfl (by kernel_rfl)) rfl ?_
 exact ⟨_, rfl, HV6.out, HB6.out⟩
end Go.Proofs.Ytccjdefhieilpaa.VT
