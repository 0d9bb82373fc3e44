/-
  Written by hand (the rows that repeat by a program): the walk of VaultPrefix.
-/
import Derived.Test.YtccjdefhieilpaaVInv
import Derived.Test.YtccjdefhieilpaaVRows
import Derived.Test.YtccjdefhieilpaaVAct
import Derived.Test.YtccjdefhieilpaaPGx4
namespace Go.Proofs.Ytccjdefhieilpaa.VT
open Go.RowKit Go.Proofs.YtccjdefhieilpaaW.PrintWords Go.Proofs.YtccjdefhieilpaaW.PrintLast Go.Proofs.YtccjdefhieilpaaW.PrintMore Go.Proofs.Ytccjdefhieilpaa.PB Go.Proofs.Ytccjdefhieilpaa.PL Go.Proofs.Ytccjdefhieilpaa.PG Go.Proofs.Ytccjdefhieilpaa.Pure
attribute [local go_sem] max2_int min2_int max_two min_two max_three min_three max_four min_four   -- for this text's walks alone
set_option linter.unusedVariables false
set_option linter.unusedSimpArgs false
def pre32.T : Bool × List (List Nat × List Nat) := (true, [([], []), ([0], [0]), ([1], [1]), ([2], [2]), ([2], [2]), ([4, 2], [2, 4]), ([3, 5, 2], [2, 3, 5]), ([2, 6], [2, 6]), ([7, 2], [7]), ([8], [8]), ([8], [8]), ([8], [8]), ([10, 11, 8, 8], [8, 10, 11]), ([8], [8]), ([8], [8]), ([13, 14, 8], [8, 13, 14]), ([12, 15, 12, 8], [8, 12, 15]), ([9, 16, 16, 8], [8, 9, 16]), ([17, 8], [8, 17]), ([8, 18], [8, 18])])
def pre32.B : List Nat := [0, 1, 3, 7, 7, 23, 63, 127, 255, 511, 511, 511, 3583, 511, 511, 25087, 65023, 131071, 262143, 524287]
theorem pre32.tab : rtab .any (opsOf Try.f10 32) = pre32.T := by kernel_rfl
theorem pre32.bits : waitsOk pre32.T.2 pre32.B = true := by kernel_rfl
theorem Both.kept {Sd S S' : Nat → Prop} {w w' : World} {gd g : Nat} {d : D} {v : V} (h : Both Sd S w gd g d v) (hk : Kept w w' S') (hs : ∀ k, S k ∨ Sd k → ¬ S' k) : Both Sd S w' gd g d v := ⟨h.dev.kept hk (fun k hk' => hs k (.inr hk')), h.vlt.kept hk (fun k hk' => hs k (.inl hk')), h.apart⟩
theorem Both.lt {Sd S : Nat → Prop} {w : World} {gd g : Nat} {d : D} {v : V} (h : Both Sd S w gd g d v) : ∀ k, S k ∨ Sd k → k < w.heap.size := fun k hk => hk.elim (h.vlt.lt k) (h.dev.lt k)
theorem below_grown {n0 : Nat} {w W w1 : World} {row : Option Nat} (h : Below n0 w w1) (hg : W.grownBy w1 row) (hs : W.heap.size ≤ w1.heap.size) : Kept W w1 (fun k => some k = row) := kept_grown hg hs
theorem take_take_len (t : List S68) (n : Nat) : t.take n = t.take (t.take n).length := by
  rw [List.length_take]
  by_cases h : n ≤ t.length
  · rw [Nat.min_eq_left h]
  · rw [Nat.min_eq_right (by omega), List.take_of_length_le (by omega), List.take_length]
set_option maxHeartbeats 32000000 in
set_option maxRecDepth 100000 in
theorem prefix_calls (w : World) (sz : Int) (A : Option Addr) (c : Nat) (l : List S70) (hC : k70.C w A l.length l) (hc : l.length ≤ c) (hb : ∀ x ∈ l, Bytes x.e.f1 ∧ x.n ≤ 9223372036854775807) :
    Calls Try.prog 10 #[.int .i64 sz, .slice A l.length c] w fun e w' => e = .returned (.bool true) ∧ Below w.heap.size w w' := by
  have HF := Aside0.mk (Kd.C_F heap70 hC)
  have HBY := Aside0.mk hb
  have HB := Aside0.mk (Below.refl w.heap.size w)
  have hu70 := Try.underlying70
  have hu68 := Try.underlying68
  clear hC hc hb
  by_cases c1 : sz < 1
  · have cb1 : decide (sz < 1) = true := decide_eq_true c1
    go_enter Try.func10, Try.ntmps10
    go_wp2_with fail
    refine (heads_calls _).mono ?_
    rintro e wh ⟨rfl, hb⟩
    have HBh := Aside0.mk (hb)
    clear hb
    go_wp2_with fail
    go_ret
    exact ⟨rfl, HBh.out⟩
  · have cb1 : decide (sz < 1) = false := decide_eq_false c1
    by_cases c2 : (2000 : Int) < sz
    · have cb2 : decide ((2000 : Int) < sz) = true := decide_eq_true c2
      go_enter Try.func10, Try.ntmps10
      go_wp2_with fail
      refine (heads_calls _).mono ?_
      rintro e wh ⟨rfl, hb⟩
      have HBh := Aside0.mk (hb)
      clear hb
      go_wp2_with fail
      go_ret
      exact ⟨rfl, HBh.out⟩
    · have cb2 : decide ((2000 : Int) < sz) = false := decide_eq_false c2
      obtain ⟨n, rfl⟩ : ∃ n : Nat, sz = (n : Int) := ⟨sz.toNat, by omega⟩
      have h1 : 1 ≤ n := by omega
      have h2 : n ≤ 2000 := by omega
      have H1 := Aside0.mk h1
      have H2 := Aside0.mk h2
      go_enter Try.func10, Try.ntmps10
      go_wp2_with fail
      refine (new_calls w n H1.out (by have := H2.out; omega)).mono ?_
      rintro e w1 ⟨gd, Sd0, rfl, hd, hs, hb⟩
      have HD1 := Aside0.mk hd
      have HS1 := Aside0.mk hs
      have HB1 := Aside0.mk hb
      clear hd hs hb c1 c2 h1 h2
      go_wp2_with fail
      refine (open_calls HD1.out rfl (zeros_bytes n)).mono ?_
      rintro e w2 ⟨g0, S0, rfl, hB, hsS, hb2⟩
      have hv : (⟨readS (layAll (newD n).b (newD n).ws), (readN (layAll (newD n).b (newD n).ws) : Int), false⟩ : V) = ⟨[], 0, false⟩ := by
        have h := readS_zeros n
        show (⟨readS (List.replicate n 0), (readN (List.replicate n 0) : Int), false⟩ : V) = _
        rw [h.1, h.2]
        rfl
      rw [hv] at hB
      have HB2 := Aside0.mk (below_step HB1.out hb2)
      have H2' := Aside0.mk hB
      have HS2 := Aside0.mk (show ∀ k, S0 k ∨ Sd0 k → w.heap.size ≤ k from fun k hk => hk.elim (fun h => Nat.le_trans HB1.out.size (hsS k h)) (HS1.out k))
      have HI0 := Aside0.mk (Inv.new n H1.out (by have := H2.out; omega))
      have HR0 := Aside0.mk (Rows2.start w (O := fun k => S0 k ∨ Sd0 k) HS2.out HB2.out.size H2'.out.lt)
      clear hB hb2 hv hsS
      obtain ⟨M, hM1, hM2, hM3⟩ : ∃ M, M ≤ l.length ∧ M ≤ 60 ∧ (M = l.length ∨ M = 60) := by
        by_cases h : l.length ≤ 60
        · exact ⟨l.length, Nat.le_refl _, h, .inl rfl⟩
        · exact ⟨60, by omega, Nat.le_refl _, .inr rfl⟩
      have HM1 := Aside0.mk hM1
      have HM2 := Aside0.mk hM2
      have HM3 := Aside0.mk hM3
      clear hM1 hM2 hM3
      go_wp2_with fail
      go_loopg [6, 8, 9, 10] M (fun kq v6 v8 v9 v10 w' => ∃ (i g : Nat) (Sd S Q : Nat → Prop) (d : D) (v : V) (s t : List S68), v6 = .pointer (some ⟨g, 0, none⟩) ∧ v10 = .int .i64 (i : Int) ∧ Aside0 (i + kq = M) ∧ Aside0 (Both Sd S w' gd g d v) ∧ Aside0 (Inv d v s t) ∧ Aside0 (Rows2 w.heap.size Q (fun k => S k ∨ Sd k) w' v8 v9 s t) ∧ Aside0 (∀ k, S k ∨ Sd k → w.heap.size ≤ k) ∧ Aside0 (Below w.heap.size w w'))
      case atStart => exact ⟨0, g0, Sd0, S0, _, newD n, ⟨[], 0, false⟩, [], [], rfl, rfl, ⟨Nat.zero_add _⟩, H2', HI0, HR0, HS2, HB2⟩
      case round =>
        clear H2' HI0 HR0 HS2 HB2 HD1 HS1 HB1 HB
        obtain ⟨i, g, Sd, S, Q, d, v, s, t, rfl, rfl, HK, HH, HI, HR, HS, HB⟩ := hrel
        obtain ⟨As, cs, rfl⟩ := Kd.N_slice HR.out.ns
        obtain ⟨At, ct, rfl⟩ := Kd.N_slice HR.out.nt
        cases gk with
        | zero =>
          by_cases q : i < l.length
          · have q1 := eq_true q
            have h60 : (60 : Int) ≤ (i : Int) := by have := HK.out; have := HM3.out; omega
            have q2 : decide ((i : Int) < 60) = false := decide_eq_false (by omega)
            have q3 : (i < 60) = False := eq_false (by omega)
            clear q h60
            go_wp2_with fail
            refine (heads_calls _).mono ?_
            rintro e wh ⟨rfl, hb⟩
            have HBh := Aside0.mk (below_step HB.out hb)
            clear hb
            go_wp2_with fail
            go_ret
            exact ⟨rfl, HBh.out⟩
          · have q1 := eq_false q
            clear q
            go_wp2_with fail
            refine (heads_calls _).mono ?_
            rintro e wh ⟨rfl, hb⟩
            have HBh := Aside0.mk (below_step HB.out hb)
            clear hb
            go_wp2_with fail
            go_ret
            exact ⟨rfl, HBh.out⟩
        | succ k1 =>
          have hin : i < l.length := by have := HK.out; have := HM1.out; omega
          have hi60 : i < 60 := by have := HK.out; have := HM2.out; omega
          obtain ⟨ad, B, cb, hA, hx0, hx1, hx2, hx3, hl1, hF1⟩ := at_70F (Kd.F_step HF.out (fun k hk _ => HB.out.block k hk)) i hin
          subst hA
          have hby := HBY.out _ (rd70_mem l i hin)
          have p0 : ((0 : Int) ≤ (i : Int)) = True := eq_true (by omega)
          have q1 : (i < l.length) = True := eq_true hin
          have q2 : decide ((i : Int) < 60) = true := decide_eq_true (by omega)
          have q3 : (i < 60) = True := eq_true hi60
          generalize rd70 l i = x at *
          have HX := Aside0.mk hF1
          have HBX := Aside0.mk hby.1
          have HL1 := Aside0.mk hl1
          have hi2 := Aside0.mk hi60
          clear hF1 hby hl1 hin hi60
          have HG := Aside0.mk HH.out.lt
          by_cases cg : (x.e.f1.length : Int) > 61000
          · have CG := Aside0.mk cg
            clear cg
            go_wp2_with (first | ((with_reducible refine gate_dst (N := 11) rfl ?_); refine box_event ?hg (N := 11) ?hd (cs := #[.int .i64 0, .int .i64 0, .int .i64 0, .slice none 0 0]) (t := 70) ?hr ?_; (case hd => rfl); (case hg => rfl); (case hr => first | (go_simp; done) | (go_simp; rfl)); intro gx hgx w2 hbox hb; have BX := Aside0.mk hbox; have HB2 := Aside0.mk hb; have GX := Aside0.mk hgx; clear hbox hb hgx; have hy0 : w2.cell? ⟨gx, 0, none⟩ = some (.int .i64 0) := (blk_cell BX.out 0).trans rfl; have hz0 := blk_frozen BX.out 0; have hy1 : w2.cell? ⟨gx, 1, none⟩ = some (.int .i64 0) := (blk_cell BX.out 1).trans rfl; have hz1 := blk_frozen BX.out 1; have hy2 : w2.cell? ⟨gx, 2, none⟩ = some (.int .i64 0) := (blk_cell BX.out 2).trans rfl; have hz2 := blk_frozen BX.out 2; have hy3 : w2.cell? ⟨gx, 3, none⟩ = some (.slice none 0 0) := (blk_cell BX.out 3).trans rfl; have hz3 := blk_frozen BX.out 3) | ((with_reducible refine gate_store (t := 70) (p := 11) rfl ?_); refine store_event (t := 70) (p := 11) (v := ?vo) (w1 := ((((w2.setCell ⟨gx, 0, none⟩ (.int .i64 x.k)).setCell ⟨gx, 1, none⟩ (.int .i64 x.n)).setCell ⟨gx, 2, none⟩ (.int .i64 x.e.f0)).setCell ⟨gx, 3, none⟩ (.slice B x.e.f1.length cb))) ?hg ?ho ?hn ?hr ?_; (case ho => rfl); (case hg => rfl); (case hn => rfl); (case hr => first | (go_simp; done) | (go_simp; rfl)); intro w3 hw3; have hb3 : Below wr.heap.size wr w3 := (by rw [hw3]; exact ((((HB2.out.setCell (by rw [GX.out]; exact Nat.le_refl _) _).setCell (by rw [GX.out]; exact Nat.le_refl _) _).setCell (by rw [GX.out]; exact Nat.le_refl _) _).setCell (by rw [GX.out]; exact Nat.le_refl _) _)); have BX3 : w3.heap[gx]? = some (.cells #[.int .i64 x.k, .int .i64 x.n, .int .i64 x.e.f0, .slice B x.e.f1.length cb] 70 (0, 0)) := (by rw [hw3]; exact (blk_put (blk_put (blk_put (blk_put BX.out 0 _ rfl) 1 _ rfl) 2 _ rfl) 3 _ rfl)); have BX3 := Aside0.mk BX3; have HB3 := Aside0.mk (below_step HB.out hb3); have HH3 := Aside0.mk (HH.out.below hb3); have HR3 := Aside0.mk (HR.out.below hb3); have HX3 := Aside0.mk (Kd.F_below HX.out hb3); clear hw3 hb3 hy0 hz0 hy1 hz1 hy2 hz2 hy3 hz3 BX HB2; have hc2 : w3.cell? ⟨gx, 2, none⟩ = some (.int .i64 x.e.f0) := (blk_cell BX3.out 2).trans rfl; have hc3 : w3.cell? ⟨gx, 3, none⟩ = some (.slice B x.e.f1.length cb) := (blk_cell BX3.out 3).trans rfl))
            refine (horariumlaw48_great.calls x.e.f0 B cb x.e.f1 true _ (Kd.F_now HX3.out) HL1.out (by unfold horariumlaw48_great.f; rw [decide_eq_true CG.out])).mono ?_
            rintro e w4 ⟨rfl, hb4⟩
            have HB4 := Aside0.mk (below_step HB3.out hb4)
            clear hb4 hc2 hc3
            go_wp2_with fail
            refine (heads_calls _).mono ?_
            rintro e wh ⟨rfl, hb⟩
            have HBh := Aside0.mk (below_step HB4.out hb)
            clear hb
            go_wp2_with fail
            go_ret
            exact ⟨rfl, HBh.out⟩
          · have CG := Aside0.mk cg
            clear cg
            go_wp2_with (first | ((with_reducible refine gate_dst (N := 11) rfl ?_); refine box_event ?hg (N := 11) ?hd (cs := #[.int .i64 0, .int .i64 0, .int .i64 0, .slice none 0 0]) (t := 70) ?hr ?_; (case hd => rfl); (case hg => rfl); (case hr => first | (go_simp; done) | (go_simp; rfl)); intro gx hgx w2 hbox hb; have BX := Aside0.mk hbox; have HB2 := Aside0.mk hb; have GX := Aside0.mk hgx; clear hbox hb hgx; have hy0 : w2.cell? ⟨gx, 0, none⟩ = some (.int .i64 0) := (blk_cell BX.out 0).trans rfl; have hz0 := blk_frozen BX.out 0; have hy1 : w2.cell? ⟨gx, 1, none⟩ = some (.int .i64 0) := (blk_cell BX.out 1).trans rfl; have hz1 := blk_frozen BX.out 1; have hy2 : w2.cell? ⟨gx, 2, none⟩ = some (.int .i64 0) := (blk_cell BX.out 2).trans rfl; have hz2 := blk_frozen BX.out 2; have hy3 : w2.cell? ⟨gx, 3, none⟩ = some (.slice none 0 0) := (blk_cell BX.out 3).trans rfl; have hz3 := blk_frozen BX.out 3) | ((with_reducible refine gate_store (t := 70) (p := 11) rfl ?_); refine store_event (t := 70) (p := 11) (v := ?vo) (w1 := ((((w2.setCell ⟨gx, 0, none⟩ (.int .i64 x.k)).setCell ⟨gx, 1, none⟩ (.int .i64 x.n)).setCell ⟨gx, 2, none⟩ (.int .i64 x.e.f0)).setCell ⟨gx, 3, none⟩ (.slice B x.e.f1.length cb))) ?hg ?ho ?hn ?hr ?_; (case ho => rfl); (case hg => rfl); (case hn => rfl); (case hr => first | (go_simp; done) | (go_simp; rfl)); intro w3 hw3; have hb3 : Below wr.heap.size wr w3 := (by rw [hw3]; exact ((((HB2.out.setCell (by rw [GX.out]; exact Nat.le_refl _) _).setCell (by rw [GX.out]; exact Nat.le_refl _) _).setCell (by rw [GX.out]; exact Nat.le_refl _) _).setCell (by rw [GX.out]; exact Nat.le_refl _) _)); have BX3 : w3.heap[gx]? = some (.cells #[.int .i64 x.k, .int .i64 x.n, .int .i64 x.e.f0, .slice B x.e.f1.length cb] 70 (0, 0)) := (by rw [hw3]; exact (blk_put (blk_put (blk_put (blk_put BX.out 0 _ rfl) 1 _ rfl) 2 _ rfl) 3 _ rfl)); have BX3 := Aside0.mk BX3; have HB3 := Aside0.mk (below_step HB.out hb3); have HH3 := Aside0.mk (HH.out.below hb3); have HR3 := Aside0.mk (HR.out.below hb3); have HX3 := Aside0.mk (Kd.F_below HX.out hb3); clear hw3 hb3 hy0 hz0 hy1 hz1 hy2 hz2 hy3 hz3 BX HB2; have hc2 : w3.cell? ⟨gx, 2, none⟩ = some (.int .i64 x.e.f0) := (blk_cell BX3.out 2).trans rfl; have hc3 : w3.cell? ⟨gx, 3, none⟩ = some (.slice B x.e.f1.length cb) := (blk_cell BX3.out 3).trans rfl))
            refine (horariumlaw48_great.calls x.e.f0 B cb x.e.f1 false _ (Kd.F_now HX3.out) HL1.out (by unfold horariumlaw48_great.f; rw [decide_eq_false (by have := CG.out; omega)])).mono ?_
            rintro e w4 ⟨rfl, hb4⟩
            have HB4 := Aside0.mk (below_step HB3.out hb4)
            have HH4 := Aside0.mk (HH3.out.below hb4)
            have HR4 := Aside0.mk (HR3.out.below hb4)
            have HX4 := Aside0.mk (Kd.F_below HX3.out hb4)
            have BX4 := Aside0.mk (blk_below BX3.out hb4)
            clear hb4 hc2 hc3 HH3 HR3 HX3 BX3 HB3 HH HR HB hx0 hx1 hx2 hx3 p0 q1 q2 q3
            have hc0 : w4.cell? ⟨gx, 0, none⟩ = some (.int .i64 x.k) := (blk_cell BX4.out 0).trans rfl
            have hc1 : w4.cell? ⟨gx, 1, none⟩ = some (.int .i64 x.n) := (blk_cell BX4.out 1).trans rfl
            have hc2 : w4.cell? ⟨gx, 2, none⟩ = some (.int .i64 x.e.f0) := (blk_cell BX4.out 2).trans rfl
            have hc3 : w4.cell? ⟨gx, 3, none⟩ = some (.slice B x.e.f1.length cb) := (blk_cell BX4.out 3).trans rfl
            by_cases k0 : x.k = 0 ∨ x.k = 1 ∨ x.k = 2
            · rcases k0 with hk | hk | hk
              all_goals
                rw [hk] at hc0
                clear hk
                go_wp2_with fail
                refine (append_calls HH4.out x.e.f0 B cb x.e.f1 (Kd.F_mono HX4.out (fun k hk h => by have := HS.out k h; omega)) HL1.out (by have := CG.out; omega) HBX.out (by have h1 := HI.out.count; rw [HI.out.vl, List.length_append]; omega) (by have h1 := HI.out.count; rw [HI.out.waits, writes_length]; omega)).mono ?_
                rintro e w5 ⟨rfl, hw5, Sd5, S5, hB5, hS5⟩
                have hI5 : Inv (appendV d v ⟨x.e.f0, x.e.f1⟩).1 (appendV d v ⟨x.e.f0, x.e.f1⟩).2.1 s (if (appendV d v ⟨x.e.f0, x.e.f1⟩).2.2 = 0 then t ++ [x.e] else t) := HI.out.append x.e HBX.out
                obtain ⟨d5, v5, q5, hr5⟩ : ∃ d5 v5 q5, appendV d v ⟨x.e.f0, x.e.f1⟩ = (d5, v5, q5) := ⟨_, _, _, rfl⟩
                rw [hr5] at hB5 hI5 ⊢
                have hI5 : Inv d5 v5 s (if q5 = 0 then t ++ [x.e] else t) := hI5
                have hB5 : Both Sd5 S5 w5 gd g d5 v5 := hB5
                have H5 := Aside0.mk hB5
                have HR5 := Aside0.mk (HR4.out.went hw5 (O' := fun k => S5 k ∨ Sd5 k) hS5 hB5.lt)
                have HS5 := Aside0.mk (show ∀ k, S5 k ∨ Sd5 k → w.heap.size ≤ k from fun k hk => (hS5 k hk).elim (HS.out k) (fun h => Nat.le_trans HB4.out.size h))
                have HB5 := Aside0.mk (HB4.out.trans (hw5.to_below HB4.out.size HS.out))
                have BX5 := blk_kept BX4.out hw5.kept (fun h => by have h1 := HG.out gx h; have h2 := GX.out; omega)
                have HX5 := Aside0.mk (Kd.F_kept HX4.out hw5.kept (fun k hk h => by have := HS.out k h; omega))
                have hc2 : w5.cell? ⟨gx, 2, none⟩ = some (.int .i64 x.e.f0) := (blk_cell BX5 2).trans rfl
                have hc3 : w5.cell? ⟨gx, 3, none⟩ = some (.slice B x.e.f1.length cb) := (blk_cell BX5 3).trans rfl
                clear hw5 hB5 hS5 hr5 hc0 hc1 BX5
                by_cases c5 : q5 = 0
                · subst c5
                  rw [if_pos rfl] at hI5
                  have HI5 := Aside0.mk hI5
                  clear hI5
                  go_wp2_with (first | ((with_reducible refine gate_builtin (b := .append) (xs := #[.tmp 65, .tmp 68]) rfl ?_); at_builtin; refine Kd.N_append k68 (w0 := w) w.heap.size rfl (.tmp 65) (.tmp 68) 66 68 (.agg #[(.int .i64 0), (.slice none 0 0)]) 32 rfl Try.underlying66 PL.info68 rfl (by decide) (by omega) (.slice At t.length ct) t x.e [.int .i64 x.e.f0, .slice B x.e.f1.length cb] (fun k => Q k ∨ some k = (Value.slice At t.length ct).ownBlock ∨ w5.heap.size ≤ k) (fun k => k < w.heap.size) rfl rfl (k68_mkF w5 _ x.e HL1.out HX5.out) (fun k hk => ⟨.inl (HR5.out.old k hk), fun e => (HR5.out.qt k e.symm).1 (HR5.out.old k hk)⟩) (fun k hk => .inr (.inr hk)) (Kd.N_mono HR5.out.nt (fun k hk => hk.imp id .inl)) HB5.out HB5.out.size (by have h1 := HI.out.count; omega) ?_; intro v6 w6 hn6 hb6 hg6 hat6; obtain ⟨A6, c6, hv6⟩ := Kd.N_slice hn6; subst hv6; have hsz6 : w5.heap.size ≤ w6.heap.size := hg6.size; have H6 := Aside0.mk (H5.out.kept (kept_grown hg6 hsz6) (fun k hk e => (HR5.out.qt k e.symm).2.1 hk)); have HR6 := Aside0.mk (HR5.out.push hn6 hg6 hsz6 hat6); have HB6 := Aside0.mk hb6; clear hn6 hb6 hg6 hat6 hsz6 hc2 hc3))
                  obtain ⟨Q6, hq6⟩ := HR6.out
                  rw [List.length_append, List.length_singleton] at hq6
                  have HR7 := Aside0.mk hq6
                  clear hq6 HR6
                  go_wp2_with fail
                  go_roundg k1
                  case measure => omega
                  case rel => exact ⟨i + 1, g, Sd5, S5, Q6, d5, v5, s, t ++ [x.e], rfl, (by have h_ : wrap64 ((i : Int) + 1) = ((i + 1 : Nat) : Int) := (by have := hi2.out; unfold wrap64; omega); rw [h_]), ⟨by have := HK.out; omega⟩, H6, HI5, HR7, HS5, HB6⟩
                · have cb5 : (q5 == 0) = false := beq_eq_false_iff_ne.mpr c5
                  rw [if_neg c5] at hI5
                  have HI5 := Aside0.mk hI5
                  clear hI5 c5
                  go_wp2_with fail
                  go_roundg k1
                  case measure => omega
                  case rel => exact ⟨i + 1, g, Sd5, S5, Q, d5, v5, s, t, rfl, (by have h_ : wrap64 ((i : Int) + 1) = ((i + 1 : Nat) : Int) := (by have := hi2.out; unfold wrap64; omega); rw [h_]), ⟨by have := HK.out; omega⟩, H5, HI5, HR5, HS5, HB5⟩
            · have e0 : (x.k == 0) = false := beq_eq_false_iff_ne.mpr (fun h => k0 (.inl h))
              have e1 : (x.k == 1) = false := beq_eq_false_iff_ne.mpr (fun h => k0 (.inr (.inl h)))
              have e2 : (x.k == 2) = false := beq_eq_false_iff_ne.mpr (fun h => k0 (.inr (.inr h)))
              clear k0
              by_cases k3 : x.k = 3
              · rw [k3] at hc0
                clear e0 e1 e2 k3
                go_wp2_with fail
                refine (sync_calls HH4.out.dev HH4.out.vlt HH4.out.apart).mono ?_
                rintro e w5 ⟨rfl, hd5, hv5, hw5⟩
                have hI5 := HI.out.sync
                obtain ⟨q5, hq5⟩ : ∃ q5, q5 = (if v.dead = true then 28 else (flushD d).2) := ⟨_, rfl⟩
                obtain ⟨d5, hdq⟩ : ∃ d5, d5 = (if v.dead = true then d else (flushD d).1) := ⟨_, rfl⟩
                obtain ⟨v5, hvq⟩ : ∃ v5, v5 = (if v.dead = true then v else doneV v (flushD d).2) := ⟨_, rfl⟩
                rw [← hdq, ← hvq, ← hq5] at hI5
                rw [← hdq] at hd5
                rw [← hvq] at hv5
                rw [← hq5]
                have H5 := Aside0.mk (show Both Sd S w5 gd g d5 v5 from ⟨hd5, hv5, HH4.out.apart⟩)
                have HR5 := Aside0.mk (HR4.out.went hw5 (O' := fun k => S k ∨ Sd k) (fun k hk => .inl hk) H5.out.lt)
                have HB5 := Aside0.mk (HB4.out.trans (hw5.to_below HB4.out.size HS.out))
                clear hw5 hd5 hv5 hq5 hdq hvq hc0 hc1 hc2 hc3
                by_cases c5 : q5 = 0
                · subst c5
                  rw [if_pos rfl, if_pos rfl] at hI5
                  have HI5 := Aside0.mk hI5
                  clear hI5
                  go_wp2_with (first | ((with_reducible refine gate_builtin (b := .append) (xs := #[.tmp 75, .tmp 76]) rfl ?_); at_builtin; refine Kd.N_append_rows k68 (w0 := w) w.heap.size rfl (.tmp 75) (.tmp 76) 66 68 (.agg #[(.int .i64 0), (.slice none 0 0)]) 32 rfl Try.underlying66 PL.info68 rfl (by decide) (by omega) (.slice As s.length cs) s t At t.length ct (fun k => (Q k ∨ some k = (Value.slice At t.length ct).ownBlock) ∨ some k = (Value.slice As s.length cs).ownBlock ∨ w5.heap.size ≤ k) (fun k => Q k ∨ some k = (Value.slice At t.length ct).ownBlock) rfl rfl (Kd.N_mono HR5.out.ns (fun k hk => hk.elim (fun h => .inl (.inl h)) (fun h => .inr (.inl h)))) (Kd.N_F HR5.out.nt) (fun k hk => ⟨.inl hk, fun e => hk.elim (fun h => (HR5.out.qs k e.symm).1 h) (fun h => (HR5.out.qt k h.symm).2.2 e.symm)⟩) (fun k hk => .inr (.inr hk)) HB5.out HB5.out.size (by have h1 := HI.out.count; omega) ?_; intro v6 w6 hn6 hb6 hg6 hat6; obtain ⟨A6, c6, hv6⟩ := Kd.N_slice hn6; subst hv6; have hsz6 : w5.heap.size ≤ w6.heap.size := hg6.size; have H6 := Aside0.mk (H5.out.kept (kept_grown hg6 hsz6) (fun k hk e => (HR5.out.qs k e.symm).2 hk)); have HR6 := Aside0.mk (HR5.out.join hn6 hsz6 hat6); have HB6 := Aside0.mk hb6; clear hn6 hb6 hg6 hat6 hsz6))
                  obtain ⟨Q6, hq6⟩ := HR6.out
                  rw [List.length_append] at hq6
                  have HR7 := Aside0.mk hq6
                  clear hq6 HR6
                  go_wp2_with fail
                  go_roundg k1
                  case measure => omega
                  case rel => exact ⟨i + 1, g, Sd, S, Q6, d5, v5, s ++ t, [], rfl, (by have h_ : wrap64 ((i : Int) + 1) = ((i + 1 : Nat) : Int) := (by have := hi2.out; unfold wrap64; omega); rw [h_]), ⟨by have := HK.out; omega⟩, H6, HI5, HR7, HS, HB6⟩
                · have cb5 : (q5 == 0) = false := beq_eq_false_iff_ne.mpr c5
                  rw [if_neg c5, if_neg c5] at hI5
                  have HI5 := Aside0.mk hI5
                  clear hI5 c5
                  go_wp2_with fail
                  go_roundg k1
                  case measure => omega
                  case rel => exact ⟨i + 1, g, Sd, S, Q, d5, v5, s, t, rfl, (by have h_ : wrap64 ((i : Int) + 1) = ((i + 1 : Nat) : Int) := (by have := hi2.out; unfold wrap64; omega); rw [h_]), ⟨by have := HK.out; omega⟩, H5, HI5, HR5, HS, HB5⟩
              · have e3 : (x.k == 3) = false := beq_eq_false_iff_ne.mpr k3
                clear k3
                by_cases k4 : x.k = 4
                · rw [k4] at hc0
                  clear e0 e1 e2 e3 k4
                  go_wp2_with fail
                  refine (arm_calls HH4.out.dev x.n).mono ?_
                  rintro e w5 ⟨rfl, hd5, hw5⟩
                  have H5 := Aside0.mk (show Both Sd S w5 gd g (armD d x.n) v from ⟨hd5, HH4.out.vlt.kept hw5.kept HH4.out.apart, HH4.out.apart⟩)
                  have hw5' : Went (fun k => S k ∨ Sd k) w4 w5 := ⟨⟨hw5.kept.1, fun k hk hn => hw5.kept.2 k hk (fun h => hn (.inr h))⟩, hw5.below⟩
                  have HR5 := Aside0.mk (HR4.out.went hw5' (O' := fun k => S k ∨ Sd k) (fun k hk => .inl hk) H5.out.lt)
                  have HB5 := Aside0.mk (HB4.out.trans (hw5'.to_below HB4.out.size HS.out))
                  have HI5 := Aside0.mk (HI.out.arm x.n)
                  clear hw5 hw5' hd5 hc0 hc1 hc2 hc3
                  go_wp2_with fail
                  go_roundg k1
                  case measure => omega
                  case rel => exact ⟨i + 1, g, Sd, S, Q, armD d x.n, v, s, t, rfl, (by have h_ : wrap64 ((i : Int) + 1) = ((i + 1 : Nat) : Int) := (by have := hi2.out; unfold wrap64; omega); rw [h_]), ⟨by have := HK.out; omega⟩, H5, HI5, HR5, HS, HB5⟩
                · have e4 : (x.k == 4) = false := beq_eq_false_iff_ne.mpr k4
                  clear k4
                  by_cases k5 : x.k = 5
                  · rw [k5] at hc0
                    clear e0 e1 e2 e3 e4 k5
                    go_wp2_with fail
                    refine (crash_calls HH4.out.dev x.n).mono ?_
                    rintro e w5 ⟨rfl, hd5, hw5⟩
                    obtain ⟨_, hcl, hcr, hcn, hcb, hI5⟩ := HI.out.crash x.n
                    have hw5' : Went (fun k => S k ∨ Sd k) w4 w5 := ⟨⟨hw5.kept.1, fun k hk hn => hw5.kept.2 k hk (fun h => hn (.inr h))⟩, hw5.below⟩
                    have D5 := Aside0.mk hd5
                    have HB5 := Aside0.mk (HB4.out.trans (hw5'.to_below HB4.out.size HS.out))
                    have HR5 := Aside0.mk (HR4.out.went hw5' (O' := fun k => Sd k) (fun k hk => .inl (.inr hk)) hd5.lt)
                    have hj := take_take_len t x.n.toNat
                    have hjl : (t.take x.n.toNat).length ≤ t.length := by rw [List.length_take]; omega
                    obtain ⟨j, hjq⟩ : ∃ j, j = (t.take x.n.toNat).length := ⟨_, rfl⟩
                    rw [← hjq] at hj hjl
                    obtain ⟨L, hL⟩ : ∃ L, L = s ++ t.take j := ⟨_, rfl⟩
                    rw [hj, ← hL] at hcr hcn hI5
                    have hLl : L.length = s.length + j := by rw [hL, List.length_append, List.length_take]; omega
                    have HCR := Aside0.mk hcr
                    have HCN := Aside0.mk hcn
                    have HCB := Aside0.mk hcb
                    have HI5 := Aside0.mk hI5
                    have HJL := Aside0.mk hjl
                    have HL := Aside0.mk hL
                    have HLL := Aside0.mk hLl
                    clear hw5 hw5' hd5 hcl hcr hcn hcb hI5 hj hjq hjl hc0 hc1 hc2 hc3 hL hLl
                    go_wp2_with fail
                    refine (open_calls D5.out rfl HCB.out).mono ?_
                    rintro e w6 ⟨g6, S6, rfl, hB6, hs6, hb6⟩
                    rw [HCR.out, HCN.out] at hB6
                    have H6 := Aside0.mk hB6
                    have HB6 := Aside0.mk (below_step HB5.out hb6)
                    have HR6 := Aside0.mk (HR5.out.below hb6)
                    have HS6 := Aside0.mk hs6
                    clear hB6 hs6 hb6
                    go_wp2_with fail
                    have HCT := Aside0.mk HI.out.count
                    refine (entries_calls H6.out.vlt (by show L.length ≤ 1000000; have h1 := HLL.out; have h2 := HJL.out; have h3 := HCT.out; omega) (fun y hy => (HI5.out.rs y hy).2.2)).mono ?_
                    rintro e w7 ⟨u7, rfl, hu7, hb7⟩
                    obtain ⟨A7, c7, hu⟩ := Kd.S_slice hu7
                    subst hu
                    have HU7 := Aside0.mk hu7
                    have H7 := Aside0.mk (H6.out.below hb7)
                    have HB7 := Aside0.mk (below_step HB6.out hb7)
                    have HR7 := Aside0.mk (HR6.out.below hb7)
                    have G7 := Aside0.mk hb7.size
                    clear hu7 hb7
                    have hlen : wrap64 ((L.length : Int) - (s.length : Int)) = (j : Int) := by
                      have h1 := HJL.out
                      have h2 := HLL.out
                      have h3 := HCT.out
                      unfold wrap64
                      omega
                    have hjn : decide ((j : Int) < 0) = false := decide_eq_false (by omega)
                    have hjt : (t.length < j) = False := eq_false (by have := HJL.out; omega)
                    obtain ⟨i1, hi1, _, hsz1, _⟩ := info_parts PL.info68
                    have hcut := cut_to (P := Try.prog) 66 68 .i64 Try.underlying66 hi1 At t.length ct (j : Int) (by omega) (by have := HJL.out; omega) (Kd.N_reads' HR7.out.nt).2.1
                    rw [Int.toNat_natCast] at hcut
                    go_wp2_with fail
                    refine start_ (n := 20) (S := fun w' => True) (ds := []) #[false, false, false, false, false, false, false, false, false, false, false, false, false, false, false, false, false, false, false, false] (by kernel_rfl) rfl rfl trivial (fun hHeld => ?_); refine with_tabW pre32.tab pre32.bits (fun HT_ HW_ => ?_)
                    have HU8 := Aside0.mk (Kd.S_drew HU7.out); have H8 := Aside0.mk (H7.out.below (below_drew (Below.refl _ _))); have HB8 := Aside0.mk (below_drew1 HB7.out); have HR8 := Aside0.mk (HR7.out.below (below_drew (Below.refl _ _))); have G8 := Aside0.mk (show w6.heap.size ≤ w7.drew.heap.size from G7.out); clear HU7 H7 HB7 HR7 G7; generalize w7.drew = w8 at HU8 H8 HB8 HR8 G8 hHeld ⊢
                    refine pure_ (i := 0) (N := some 108) (v := ?_) (a' := ?_) #[true, false, false, false, false, false, false, false, false, false, false, false, false, false, false, false, false, false, false, false] rfl rfl (any_of HT_.out (by kernel_rfl)) (fun _ _ _ h => h) (Or.inl ⟨by rfl, ?_⟩) ?_ ?_
                    rotate_left
                    · intro w'
                      go_simp
                      with_reducible rfl
                    rotate_left
                    · simp only [Act.put, List.setIfInBounds_toArray, List.set_cons_zero, List.set_cons_succ, i64_w, i32_w]
                      rfl
                    refine pure_ (i := 1) (N := some 109) (v := ?_) (a' := ?_) #[true, true, false, false, false, false, false, false, false, false, false, false, false, false, false, false, false, false, false, false] rfl rfl (any_of HT_.out (by kernel_rfl)) (fun _ _ _ h => h) (Or.inl ⟨by rfl, ?_⟩) ?_ ?_
                    rotate_left
                    · intro w'
                      go_simp
                      with_reducible rfl
                    rotate_left
                    · simp only [Act.put, List.setIfInBounds_toArray, List.set_cons_zero, List.set_cons_succ, i64_w, i32_w]
                      rfl
                    refine pure_ (i := 2) (N := some 110) (v := ?_) (a' := ?_) #[true, true, true, false, false, false, false, false, false, false, false, false, false, false, false, false, false, false, false, false] rfl rfl (any_of HT_.out (by kernel_rfl)) (fun _ _ _ h => h) (Or.inl ⟨by rfl, ?_⟩) ?_ ?_
                    rotate_left
                    · intro w'
                      go_simp
                      with_reducible rfl
                    rotate_left
                    · simp only [Act.put, List.setIfInBounds_toArray, List.set_cons_zero, List.set_cons_succ, i64_w, i32_w]
                      rfl
                    refine pure_ (i := 3) (N := some 111) (v := ?_) (a' := ?_) #[true, true, true, true, false, false, false, false, false, false, false, false, false, false, false, false, false, false, false, false] rfl rfl (any_of HT_.out (by kernel_rfl)) (fun _ _ _ h => h) (Or.inl ⟨by rfl, ?_⟩) ?_ ?_
                    rotate_left
                    · intro w'
                      go_simp
                      with_reducible rfl
                    rotate_left
                    · simp only [Act.put, List.setIfInBounds_toArray, List.set_cons_zero, List.set_cons_succ, i64_w, i32_w]
                      rfl
                    refine pure_ (i := 4) (N := some 112) (v := ?_) (a' := ?_) #[true, true, true, true, true, false, false, false, false, false, false, false, false, false, false, false, false, false, false, false] rfl rfl (any_of HT_.out (by kernel_rfl)) (fun _ _ _ h => h) (Or.inl ⟨by rfl, ?_⟩) ?_ ?_
                    rotate_left
                    · intro w'
                      go_simp
                      with_reducible rfl
                    rotate_left
                    · simp only [Act.put, List.setIfInBounds_toArray, List.set_cons_zero, List.set_cons_succ, i64_w, i32_w]
                      rfl
                    refine pure_ (i := 5) (N := some 113) (v := ?_) (a' := ?_) #[true, true, true, true, true, true, false, false, false, false, false, false, false, false, false, false, false, false, false, false] rfl rfl (any_of HT_.out (by kernel_rfl)) (fun _ _ _ h => h) (Or.inl ⟨by rfl, ?_⟩) ?_ ?_
                    rotate_left
                    · intro w'
                      go_simp
                      with_reducible rfl
                    rotate_left
                    · simp only [Act.put, List.setIfInBounds_toArray, List.set_cons_zero, List.set_cons_succ, i64_w, i32_w]
                      rfl
                    refine pure_ (i := 6) (N := some 114) (v := ?_) (a' := ?_) #[true, true, true, true, true, true, true, false, false, false, false, false, false, false, false, false, false, false, false, false] rfl rfl (any_of HT_.out (by kernel_rfl)) (fun _ _ _ h => h) (Or.inl ⟨by rfl, ?_⟩) ?_ ?_
                    rotate_left
                    · intro w'
                      go_simp
                      with_reducible rfl
                    rotate_left
                    · simp only [Act.put, List.setIfInBounds_toArray, List.set_cons_zero, List.set_cons_succ, i64_w, i32_w]
                      rfl
                    refine pure_ (i := 7) (N := some 115) (v := ?_) (a' := ?_) #[true, true, true, true, true, true, true, true, false, false, false, false, false, false, false, false, false, false, false, false] rfl rfl (any_of HT_.out (by kernel_rfl)) (fun _ _ _ h => h) (Or.inl ⟨by rfl, ?_⟩) ?_ ?_
                    rotate_left
                    · intro w'
                      go_simp
                      with_reducible rfl
                    rotate_left
                    · simp only [Act.put, List.setIfInBounds_toArray, List.set_cons_zero, List.set_cons_succ, i64_w, i32_w]
                      rfl
                    refine pure_ (i := 8) (N := some 116) (v := ?_) (a' := ?_) #[true, true, true, true, true, true, true, true, true, false, false, false, false, false, false, false, false, false, false, false] rfl rfl (any_of HT_.out (by kernel_rfl)) (fun _ _ _ h => h) (Or.inl ⟨by rfl, ?_⟩) ?_ ?_
                    rotate_left
                    · intro w'
                      go_simp
                      with_reducible rfl
                    rotate_left
                    · simp only [Act.put, List.setIfInBounds_toArray, List.set_cons_zero, List.set_cons_succ, i64_w, i32_w]
                      rfl
                    refine pure_ (i := 9) (N := some 117) (v := ?_) (a' := ?_) #[true, true, true, true, true, true, true, true, true, true, false, false, false, false, false, false, false, false, false, false] rfl rfl (any_of HT_.out (by kernel_rfl)) (fun _ _ _ h => h) (Or.inl ⟨by rfl, ?_⟩) ?_ ?_
                    rotate_left
                    · intro w'
                      go_simp
                      with_reducible rfl
                    rotate_left
                    · simp only [Act.put, List.setIfInBounds_toArray, List.set_cons_zero, List.set_cons_succ, i64_w, i32_w]
                      rfl
                    refine pure_ (i := 11) (N := some 119) (v := ?_) (a' := ?_) #[true, true, true, true, true, true, true, true, true, true, false, true, false, false, false, false, false, false, false, false] rfl rfl (any_of HT_.out (by kernel_rfl)) (fun _ _ _ h => h) (Or.inl ⟨by rfl, ?_⟩) ?_ ?_
                    rotate_left
                    · intro w'
                      go_simp
                      with_reducible rfl
                    rotate_left
                    · simp only [Act.put, List.setIfInBounds_toArray, List.set_cons_zero, List.set_cons_succ, i64_w, i32_w]
                      rfl
                    refine pure_ (i := 13) (N := some 121) (v := ?_) (a' := ?_) #[true, true, true, true, true, true, true, true, true, true, false, true, false, true, false, false, false, false, false, false] rfl rfl (any_of HT_.out (by kernel_rfl)) (fun _ _ _ h => h) (Or.inl ⟨by rfl, ?_⟩) ?_ ?_
                    rotate_left
                    · intro w'
                      go_simp
                      with_reducible rfl
                    rotate_left
                    · simp only [Act.put, List.setIfInBounds_toArray, List.set_cons_zero, List.set_cons_succ, i64_w, i32_w]
                      rfl
                    refine pure_ (i := 14) (N := some 122) (v := ?_) (a' := ?_) #[true, true, true, true, true, true, true, true, true, true, false, true, false, true, true, false, false, false, false, false] rfl rfl (any_of HT_.out (by kernel_rfl)) (fun _ _ _ h => h) (Or.inl ⟨by rfl, ?_⟩) ?_ ?_
                    rotate_left
                    · intro w'
                      go_simp
                      with_reducible rfl
                    rotate_left
                    · simp only [Act.put, List.setIfInBounds_toArray, List.set_cons_zero, List.set_cons_succ, i64_w, i32_w]
                      rfl
                    refine pure_ (i := 15) (N := some 123) (v := ?_) (a' := ?_) #[true, true, true, true, true, true, true, true, true, true, false, true, false, true, true, true, false, false, false, false] rfl rfl (any_of HT_.out (by kernel_rfl)) (fun _ _ _ h => h) (Or.inl ⟨by rfl, ?_⟩) ?_ ?_
                    rotate_left
                    · intro w'
                      go_simp
                      with_reducible rfl
                    rotate_left
                    · simp only [Act.put, List.setIfInBounds_toArray, List.set_cons_zero, List.set_cons_succ, i64_w, i32_w]
                      rfl
                    refine one_ (i := 10) (N := some 118) #[true, true, true, true, true, true, true, true, true, true, true, true, false, true, true, true, false, false, false, false] rfl rfl (one_of HT_.out (by kernel_rfl)) (by decide) (fun K hK => ?_)
                    refine Kd.N_lit_step k68 (w0 := w8) w8.heap.size 68 (by rfl) (N' := 118) ?hd (xs := ([] : List S68)) (inner := []) (ok := fun _ => True) (okp := fun _ => False) ?hr (Reps.none _ _) (fun _ h => h.elim) trivial (Below.refl _ _) (Nat.le_refl _) (by simp) ?_; (case hd => rfl); (case hr => first | (go_simp; done) | (go_simp; rfl))
                    intro v9 w9 hn9 hb9 _ _
                    obtain ⟨A9, c9, hv9⟩ := Kd.N_slice hn9
                    have hv9 : v9 = .slice A9 0 c9 := hv9
                    subst hv9
                    have HN9 := Aside0.mk hn9
                    have HB9 := Aside0.mk hb9
                    clear hn9 hb9
                    refine hK.out _ _ trivial (fun hHeld => ?_)
                    clear hK K
                    refine norm_ (a' := ?_) ?_ ?_
                    rotate_left
                    · show Act.put _ (some 118) _ = _
                      simp only [Act.put, List.setIfInBounds_toArray, List.set_cons_zero, List.set_cons_succ, i64_w, i32_w]
                      rfl
                    refine one_ (i := 12) (N := some 120) #[true, true, true, true, true, true, true, true, true, true, true, true, true, true, true, true, false, false, false, false] rfl rfl (one_of HT_.out (by kernel_rfl)) (by decide) (fun K hK => ?_)
                    refine Kd.N_append_rows_step k68 (w0 := w8) w8.heap.size (by rfl) (.tmp 118) (.tmp 119) 66 68 (.agg #[(.int .i64 0), (.slice none 0 0)]) 32 rfl Try.underlying66 PL.info68 rfl (by decide) (by omega) (.slice A9 0 c9) ([] : List S68) s As s.length cs (fun _ => True) (fun k => k < w8.heap.size) rfl rfl HN9.out (Kd.F_mono (Kd.N_F (Kd.N_below HR8.out.ns HB9.out)) (fun k hk => hk.elim (HR8.out.lt k) (fun e => Kd.N_lt HR8.out.ns k e.symm))) (fun k hk => ⟨trivial, fun e => by have := Kd.N_base HN9.out k e.symm; omega⟩) (fun _ _ => trivial) HB9.out HB9.out.size (by have h1 := HCT.out; show (0 + s.length) * 32 ≤ _; omega) ?_
                    intro v10 w10 hn10 hb10 _ _
                    have hn10 : Kd.N k68 68 w10 w8.heap.size (fun _ => True) v10 s := hn10
                    obtain ⟨A10, c10, hv10⟩ := Kd.N_slice hn10
                    subst hv10
                    have HN10 := Aside0.mk hn10
                    have HB10 := Aside0.mk hb10
                    clear hn10 hb10
                    refine hK.out _ _ trivial (fun hHeld => ?_)
                    clear hK K
                    refine norm_ (a' := ?_) ?_ ?_
                    rotate_left
                    · show Act.put _ (some 120) _ = _
                      simp only [Act.put, List.setIfInBounds_toArray, List.set_cons_zero, List.set_cons_succ, i64_w, i32_w]
                      rfl
                    refine one_ (i := 16) (N := some 124) #[true, true, true, true, true, true, true, true, true, true, true, true, true, true, true, true, true, false, false, false] rfl rfl (one_of HT_.out (by kernel_rfl)) (by decide) (fun K hK => ?_)
                    refine Kd.N_append_rows_step k68 (w0 := w8) w8.heap.size (by rfl) (.tmp 120) (.tmp 123) 66 68 (.agg #[(.int .i64 0), (.slice none 0 0)]) 32 rfl Try.underlying66 PL.info68 rfl (by decide) (by omega) (.slice A10 s.length c10) s (t.take j) At j ct (fun _ => True) (fun k => k < w8.heap.size) rfl rfl HN10.out (Kd.F_mono (Kd.N_F (Kd.N_take (m := j) (Kd.N_below HR8.out.nt HB10.out) HJL.out)) (fun k hk => hk.elim (HR8.out.lt k) (fun e => Kd.N_lt HR8.out.nt k e.symm))) (fun k hk => ⟨trivial, fun e => by have := Kd.N_base HN10.out k e.symm; omega⟩) (fun _ _ => trivial) HB10.out HB10.out.size (by have h1 := HCT.out; have h2 := HJL.out; omega) ?_
                    intro v11 w11 hn11 hb11 _ _
                    rw [← HL.out] at hn11
                    obtain ⟨A11, c11, hv11⟩ := Kd.N_slice hn11
                    subst hv11
                    have HN11 := Aside0.mk hn11
                    have HB11 := Aside0.mk hb11
                    clear hn11 hb11
                    refine hK.out _ _ trivial (fun hHeld => ?_)
                    clear hK K
                    refine norm_ (a' := ?_) ?_ ?_
                    rotate_left
                    · show Act.put _ (some 124) _ = _
                      simp only [Act.put, List.setIfInBounds_toArray, List.set_cons_zero, List.set_cons_succ, i64_w, i32_w]
                      rfl
                    refine one_ (i := 17) (N := some 125) #[true, true, true, true, true, true, true, true, true, true, true, true, true, true, true, true, true, true, false, false] rfl rfl (one_of HT_.out (by kernel_rfl)) (by decide) (fun K hK => ?_)
                    refine goes_ Try.func68 (by kernel_rfl) rfl #[.slice A7 L.length c7, .slice A11 L.length c11] (by rfl) rfl rfl (by (try simp only [List.map_toArray, List.map_cons, List.map_nil]); first | done | rfl) ?_
                    obtain ⟨ks, hks⟩ : ∃ ks, L.length + 2 ≤ ks := ⟨_, Nat.le_refl _⟩
                    refine (horariumref47_Same.calls ks A7 c7 L A11 c11 L true _ (Kd.S_reads' (Kd.S_below HU8.out HB11.out)).2.2 (Kd.S_reads' (Kd.S_below HU8.out HB11.out)).2.1 (Kd.N_reads' HN11.out).2.2 (Kd.N_reads' HN11.out).2.1 ((rsame_eq ks L L HI5.out.ds HI5.out.ds (by have h1 := HLL.out; have h2 := HJL.out; have h3 := HCT.out; omega) hks).trans (congrArg some (decide_eq_true rfl)))).mono ?_
                    rintro e w12 ⟨rfl, hd12⟩
                    refine ⟨_, rfl, ?_⟩
                    have HB12 := Aside0.mk (below_step HB11.out hd12.below)
                    clear hd12 hks
                    refine hK.out _ _ trivial (fun hHeld => ?_)
                    clear hK K
                    refine norm_ (a' := ?_) ?_ ?_
                    rotate_left
                    · show Act.put _ (some 125) _ = _
                      simp only [Act.put, List.setIfInBounds_toArray, List.set_cons_zero, List.set_cons_succ, i64_w, i32_w]
                      rfl
                    refine pure_ (i := 18) (N := some 126) (v := ?_) (a' := ?_) #[true, true, true, true, true, true, true, true, true, true, true, true, true, true, true, true, true, true, true, false] rfl rfl (any_of HT_.out (by kernel_rfl)) (fun _ _ _ h => h) (Or.inl ⟨by rfl, ?_⟩) ?_ ?_
                    rotate_left
                    · intro w'
                      go_simp
                      with_reducible rfl
                    rotate_left
                    · simp only [Act.put, List.setIfInBounds_toArray, List.set_cons_zero, List.set_cons_succ, i64_w, i32_w]
                      rfl
                    refine pure_ (i := 19) (N := some 127) (v := ?_) (a' := ?_) #[true, true, true, true, true, true, true, true, true, true, true, true, true, true, true, true, true, true, true, true] rfl rfl (any_of HT_.out (by kernel_rfl)) (fun _ _ _ h => h) (Or.inl ⟨by rfl, ?_⟩) ?_ ?_
                    rotate_left
                    · intro w'
                      go_simp
                      with_reducible rfl
                    rotate_left
                    · simp only [Act.put, List.setIfInBounds_toArray, List.set_cons_zero, List.set_cons_succ, i64_w, i32_w]
                      rfl
                    refine done_ (done_of HT_.out (by kernel_rfl)) ?_
                    have HZ := Aside0.mk (H8.out.below HB12.out)
                    have HBZ := Aside0.mk (below_step HB8.out HB12.out)
                    have HRZ := Aside0.mk (HR6.out.anew (w1 := w12) (O' := fun k => S6 k ∨ Sd k) (n1 := w6.heap.size) (Nat.le_trans G8.out HB12.out.size) (Nat.le_refl _) HB6.out.size (Kd.N_lower (Kd.N_below (Kd.N_mono (Kd.S_N (Kd.S_bound HU8.out)) (ok' := fun k => w6.heap.size ≤ k) (fun k hk => hk.2.1)) HB12.out) HB6.out.size) (fun k hk => ⟨H6.out.lt k hk, Nat.lt_of_lt_of_le (H6.out.lt k hk) (Nat.le_trans G8.out HB12.out.size)⟩) (fun k hk ho => ho.elim (fun h => by have h1 := HR5.out.lt k hk; have h2 := HS6.out k h; omega) (HR5.out.off k hk)))
                    have HSZ := Aside0.mk (show ∀ k, S6 k ∨ Sd k → w.heap.size ≤ k from fun k hk => hk.elim (fun h => Nat.le_trans HB5.out.size (HS6.out k h)) (fun h => HS.out k (.inr h)))
                    obtain ⟨Q7, hq7⟩ := HRZ.out
                    have HRY := Aside0.mk hq7
                    clear hq7 HRZ hcut hjn hjt hlen
                    go_wp2_with fail
                    go_roundg k1
                    case measure => omega
                    case rel => exact ⟨i + 1, g6, Sd, S6, Q7, crashD d x.n, ⟨L, ((framesS L).length : Int), false⟩, L, [], rfl, (by have h_ : wrap64 ((i : Int) + 1) = ((i + 1 : Nat) : Int) := (by have := hi2.out; unfold wrap64; omega); rw [h_]), ⟨by have := HK.out; omega⟩, HZ, HI5, HRY, HSZ, HBZ⟩
                  · have e5 : (x.k == 5) = false := beq_eq_false_iff_ne.mpr k5
                    clear k5 hc1 hc2 hc3
                    go_wp2_with fail
                    go_roundg k1
                    case measure => omega
                    case rel => exact ⟨i + 1, g, Sd, S, Q, d, v, s, t, rfl, (by have h_ : wrap64 ((i : Int) + 1) = ((i + 1 : Nat) : Int) := (by have := hi2.out; unfold wrap64; omega); rw [h_]), ⟨by have := HK.out; omega⟩, HH4, HI, HR4, HS, HB4⟩
end Go.Proofs.Ytccjdefhieilpaa.VT
