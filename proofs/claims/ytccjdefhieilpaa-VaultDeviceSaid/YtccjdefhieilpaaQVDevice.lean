/-
  What the law VaultDevice needs of VDevice (what it does not use is left out by a program of this session, wip/tools/dce.py).
-/
import Derived.Test.YtccjdefhieilpaaQVRefD
import Derived.Test.YtccjdefhieilpaaQVAct
namespace Go.Proofs.Ytccjdefhieilpaa.VT
open Go.RowKit Go.Proofs.YtccjdefhieilpaaW.PrintWords Go.Proofs.YtccjdefhieilpaaW.PrintLast Go.Proofs.YtccjdefhieilpaaW.PrintMore Go.Proofs.Ytccjdefhieilpaa.PB Go.Proofs.Ytccjdefhieilpaa.PL Go.Proofs.Ytccjdefhieilpaa.PG Go.Proofs.Ytccjdefhieilpaa.Pure
attribute [local go_sem] max2_int min2_int max_two min_two max_three min_three max_four min_four   -- for this text's walks alone
set_option linter.unusedVariables false
set_option linter.unusedSimpArgs false
def dev37.T : Bool × List (List Nat × List Nat) := (true, [([], []), ([], []), ([0, 1], [0, 1]), ([2], [2]), ([3], [3]), ([4, 3, 3], [3, 4]), ([5, 3], [3, 5]), ([3], [3]), ([7, 3], [3, 7]), ([6, 8, 3], [3, 6, 8]), ([3, 9], [3, 9]), ([10, 5], [10]), ([11], [11]), ([12, 11, 11], [11, 12]), ([11], [11]), ([13, 14, 11], [11, 13, 14]), ([11, 15], [11, 15])])
def dev37.B : List Nat := [0, 0, 3, 7, 15, 31, 63, 15, 143, 511, 1023, 2047, 4095, 8191, 4095, 32767, 65535]
theorem dev37.tab : rtab .any (opsOf Try.f13 37) = dev37.T := by kernel_rfl
theorem dev37.bits : waitsOk dev37.T.2 dev37.B = true := by kernel_rfl
theorem writeD_b (d : D) (a : Int) (xs : List Int) : (writeD d a xs).1.b = d.b := by
  unfold writeD
  split
  · split
    · rfl
    · exact (burnD_bw d).1
  · rfl
theorem writeD_ws (d : D) (a : Int) (xs : List Int) : (writeD d a xs).1.ws.length ≤ d.ws.length + 1 := by
  unfold writeD
  split
  · split
    · show (d.ws ++ [(⟨a, xs⟩ : S161)]).length ≤ _
      rw [List.length_append]
      exact Nat.le_refl _
    · rw [(burnD_bw d).2]
      exact Nat.le_succ _
  · exact Nat.le_succ _
theorem flushD_b (d : D) (hf : ∀ x ∈ d.ws, 0 ≤ x.f0 ∧ x.f0.toNat + x.f1.length ≤ d.b.length) : (flushD d).1.b.length = d.b.length := by
  unfold flushD
  split
  · split
    · exact layAll_length d.ws d.b hf
    · rw [(burnD_bw d).1]
  · rfl
theorem flushD_ws (d : D) : (flushD d).1.ws.length ≤ d.ws.length := by
  unfold flushD
  split
  · split
    · exact Nat.zero_le _
    · rw [(burnD_bw d).2]
      exact Nat.le_refl _
  · exact Nat.le_refl _
theorem crashD_b (d : D) (n : Int) (hf : ∀ x ∈ d.ws, 0 ≤ x.f0 ∧ x.f0.toNat + x.f1.length ≤ d.b.length) : (crashD d n).b.length = d.b.length := layAll_length _ d.b (fun x hx => hf x (List.mem_of_mem_take hx))
structure Ref (n0 : Nat) (P Sd : Nat → Prop) (w : World) (gr : Nat) (d : D) (i : Nat) : Prop where
  at_ : ∃ vr arm, w.heap[gr]? = some (.cells #[.string (strOfNums d.b), vr, .bool d.dead, .int .i64 arm] 89 (0, 0)) ∧ Kd.R k166 166 w n0 P vr (wS d.ws) ∧ ArmR d.fuse arm i
  lt : ∀ k, P k → k < w.heap.size
  off : ∀ k, P k → ¬ Sd k ∧ k ≠ gr
  goff : ¬ Sd gr
variable {n0 : Nat} {P Sd Sd' : Nat → Prop} {w w' w1 w2 : World} {gr gd : Nat} {d d' : D} {i j : Nat} {v1 : Value} {arm : Int}
theorem Ref.went (h : Ref n0 P Sd w gr d i) (hw : Went Sd w w') (hn : ∀ k, Sd' k → Sd k ∨ w.heap.size ≤ k) : Ref n0 P Sd' w' gr d i := by
  obtain ⟨vr, arm, h1, h2, h3⟩ := h.at_
  exact ⟨⟨vr, arm, blk_kept h1 hw.kept h.goff, Kd.R_step h2 (fun k hk hlt => hw.kept.2 k hlt (h.off k hk).1), h3⟩, fun k hk => Nat.lt_of_lt_of_le (h.lt k hk) hw.kept.1,
    fun k hk => ⟨fun hs => (hn k hs).elim (h.off k hk).1 (fun h4 => by have := h.lt k hk; omega), (h.off k hk).2⟩, fun hs => (hn gr hs).elim h.goff (fun h4 => by have := blk_lt h1; omega)⟩
theorem Ref.below (h : Ref n0 P Sd w gr d i) (hb : Below w.heap.size w w') : Ref n0 P Sd w' gr d i := h.went (Went.of_below hb) (fun k hk => .inl hk)
theorem Ref.more (h : Ref n0 P Sd w gr d i) : Ref n0 P Sd w gr d (i + 1) := by
  obtain ⟨vr, arm, h1, h2, h3⟩ := h.at_
  exact ⟨⟨vr, arm, h1, h2, h3.more (Nat.le_succ _)⟩, h.lt, h.off, h.goff⟩
theorem Ref.glt (h : Ref n0 P Sd w gr d i) : gr < w.heap.size := by
  obtain ⟨vr, arm, h1, _⟩ := h.at_
  exact blk_lt h1
theorem ref_put (h : Ref n0 P Sd w gr d i) (hD : Dev Sd w gd d') (hk : Kept w w1 (fun k => P k)) (hR : Kd.R k166 166 w1 n0 (fun k => P k ∨ w.heap.size ≤ k) v1 (wS d'.ws)) (ha : ArmR d'.fuse arm j)
    (hw : w2 = (((w1.setCell ⟨gr, 0, none⟩ (.string (strOfNums d'.b))).setCell ⟨gr, 1, none⟩ v1).setCell ⟨gr, 2, none⟩ (.bool d'.dead)).setCell ⟨gr, 3, none⟩ (.int .i64 arm)) :
    (∃ P', Ref n0 P' Sd w2 gr d' j) ∧ Dev Sd w2 gd d' ∧ Kept w w2 (fun k => P k ∨ k = gr) := by
  obtain ⟨vr, arm0, h1, h2, h3⟩ := h.at_
  have hb1 : w1.heap[gr]? = some (.cells #[.string (strOfNums d.b), vr, .bool d.dead, .int .i64 arm0] 89 (0, 0)) := blk_kept h1 hk (fun hp => (h.off gr hp).2 rfl)
  have hk2 : Kept w w2 (fun k => P k ∨ k = gr) := by
    rw [hw]
    have hk0 : Kept w w1 (fun k => P k ∨ k = gr) := ⟨hk.1, fun k hlt hn => hk.2 k hlt (fun hp => hn (.inl hp))⟩
    exact (((hk0.setCell (.inl (.inr rfl)) _).setCell (.inl (.inr rfl)) _).setCell (.inl (.inr rfl)) _).setCell (.inl (.inr rfl)) _
  have hsz : w2.heap.size = w1.heap.size := by rw [hw]; simp only [size_set]
  have hR2 : Kd.R k166 166 w1 n0 (fun k => (P k ∨ w.heap.size ≤ k) ∧ k < w1.heap.size) v1 (wS d'.ws) := Kd.R_mono (Kd.R_bound hR) (fun k hk => ⟨hk.1, hk.2.2.1⟩)
  have hne : ∀ k, ((P k ∨ w.heap.size ≤ k) ∧ k < w1.heap.size) → k ≠ gr := fun k hk e => hk.1.elim (fun hp => (h.off k hp).2 e) (fun h4 => by have := blk_lt h1; omega)
  refine ⟨⟨fun k => (P k ∨ w.heap.size ≤ k) ∧ k < w1.heap.size, ⟨v1, arm, ?_, ?_, ha⟩, fun k hk => by rw [hsz]; exact hk.2, fun k hk => ⟨fun hs => hk.1.elim (fun hp => (h.off k hp).1 hs) (fun h4 => by have := hD.lt k hs; omega), hne k hk⟩, h.goff⟩,
    hD.kept hk2 (fun k hs hp => hp.elim (fun hp => (h.off k hp).1 hs) (fun e => h.goff (e ▸ hs))), hk2⟩
  · rw [hw]
    exact blk_put (blk_put (blk_put (blk_put hb1 0 _ rfl) 1 _ rfl) 2 _ rfl) 3 _ rfl
  · rw [hw]
    exact Kd.R_far (p := ⟨gr, 3, none⟩) (Kd.R_far (p := ⟨gr, 2, none⟩) (Kd.R_far (p := ⟨gr, 1, none⟩) (Kd.R_far (p := ⟨gr, 0, none⟩) hR2 hne _) hne _) hne _) hne _
set_option maxHeartbeats 32000000 in
set_option maxRecDepth 100000 in
theorem device_calls (w : World) (sz : Int) (A : Option Addr) (c : Nat) (l : List S92) (hC : k92.C w A l.length l) (hc : l.length ≤ c) (hb : ∀ x ∈ l, Bytes x.b ∧ x.n ≤ 9223372036854775807) :
    Calls Try.prog 13 #[.int .i64 sz, .slice A l.length c] w fun e w' => e = .returned (.bool true) ∧ Below w.heap.size w w' := by
  have HF := Aside0.mk (Kd.C_F heap92 hC)
  have HBY := Aside0.mk hb
  have HB := Aside0.mk (Below.refl w.heap.size w)
  have hu92 := Try.underlying92
  have hu89 := Try.underlying89
  clear hC hc hb
  by_cases c0 : sz < 1 ∨ 1048576 < sz
  · have HC0 := Aside0.mk c0
    have cc : (decide (sz < 1) = true) ∨ (decide (sz < 1) = false ∧ decide ((1048576 : Int) < sz) = true) := by
      by_cases h : sz < 1
      · exact .inl (decide_eq_true h)
      · exact .inr ⟨decide_eq_false h, decide_eq_true (c0.resolve_left h)⟩
    clear c0
    rcases cc with cb1 | ⟨cb1, cb2⟩
    all_goals
      go_enter Try.func13, Try.ntmps13
      go_wp2_with fail
      refine (new_none_calls w sz HC0.out).mono ?_
      rintro e w1 ⟨rfl, hb⟩
      have HB1 := Aside0.mk hb
      clear hb
      go_wp2_with fail
      refine (heads_calls _).mono ?_
      rintro e wh ⟨rfl, hb⟩
      have HBh := Aside0.mk (below_step HB1.out hb)
      clear hb
      go_wp2_with fail
      go_ret
      exact ⟨rfl, HBh.out⟩
  · have cb1 : decide (sz < 1) = false := decide_eq_false (by omega)
    have cb0 : decide ((1048576 : Int) < sz) = false := decide_eq_false (by omega)
    obtain ⟨n, rfl⟩ : ∃ n : Nat, sz = (n : Int) := ⟨sz.toNat, by omega⟩
    have H1 := Aside0.mk (show 1 ≤ n by omega)
    have H2 := Aside0.mk (show n ≤ 1048576 by omega)
    clear c0
    by_cases c2 : (300 : Int) < (n : Int)
    · have cb2 : decide ((300 : Int) < (n : Int)) = true := decide_eq_true c2
      clear c2
      go_enter Try.func13, Try.ntmps13
      go_wp2_with fail
      refine (new_calls w n H1.out H2.out).mono ?_
      rintro e w1 ⟨gd, Sd0, rfl, hd, hs, hb⟩
      have HD1 := Aside0.mk hd
      have HB1 := Aside0.mk hb
      clear hd hs hb
      go_wp2_with fail
      refine (size_calls HD1.out).mono ?_
      rintro e w2 ⟨rfl, hb⟩
      have HB2 := Aside0.mk (below_step HB1.out hb)
      rw [show ((newD n).b.length : Int) = (n : Int) by show ((List.replicate n (0 : Int)).length : Int) = _; rw [List.length_replicate]]
      clear hb
      go_wp2_with fail
      refine (heads_calls _).mono ?_
      rintro e wh ⟨rfl, hb⟩
      have HBh := Aside0.mk (below_step HB2.out hb)
      clear hb
      go_wp2_with fail
      go_ret
      exact ⟨rfl, HBh.out⟩
    · have cb2 : decide ((300 : Int) < (n : Int)) = false := decide_eq_false c2
      have H3 := Aside0.mk (show n ≤ 300 by omega)
      clear c2
      go_enter Try.func13, Try.ntmps13
      go_wp2_with fail
      refine (new_calls w n H1.out H2.out).mono ?_
      rintro e w1 ⟨gd, Sd0, rfl, hd, hs, hb⟩
      have HD1 := Aside0.mk hd
      have HS1 := Aside0.mk hs
      have HB1 := Aside0.mk hb
      clear hd hs hb
      go_wp2_with fail
      refine (size_calls HD1.out).mono ?_
      rintro e w2 ⟨rfl, hb⟩
      have HB2 := Aside0.mk (below_step HB1.out hb)
      have HD2 := Aside0.mk (HD1.out.below hb)
      rw [show ((newD n).b.length : Int) = (n : Int) by show ((List.replicate n (0 : Int)).length : Int) = _; rw [List.length_replicate]]
      clear hb HD1 HB1
      go_wp2_with fail
      refine (horariumref48_NewDevice.calls (n : Int) (strOfNums (List.replicate n 0)) [] false (-1) _ (by unfold horariumref48_NewDevice.f; rw [if_pos (by omega), if_pos (by have := H2.out; omega), Int.toNat_natCast])).mono ?_
      rintro e w3 ⟨vr0, rfl, hr3, hb3⟩
      have HR3 := Aside0.mk (Kd.R_mono (Kd.R_bound hr3) (ok' := fun k => w2.heap.size ≤ k ∧ k < w3.heap.size) (fun k hk => ⟨hk.2.1, hk.2.2.1⟩))
      have HD3 := Aside0.mk (HD2.out.below hb3)
      have HB3 := Aside0.mk (below_step HB2.out hb3)
      have S23 := Aside0.mk hb3.size
      obtain ⟨Ar, cr, hvr⟩ := Kd.R_slice hr3
      have hvr : vr0 = .slice Ar 0 cr := hvr
      subst hvr
      clear hr3 hb3
      obtain ⟨M, hM1, hM2, hM3⟩ : ∃ M, M ≤ l.length ∧ M ≤ 60 ∧ (M = l.length ∨ M = 60) := by
        by_cases h : l.length ≤ 60
        · exact ⟨l.length, Nat.le_refl _, h, .inl rfl⟩
        · exact ⟨60, by omega, Nat.le_refl _, .inr rfl⟩
      have HM1 := Aside0.mk hM1
      have HM2 := Aside0.mk hM2
      have HM3 := Aside0.mk hM3
      clear hM1 hM2 hM3
      go_wp2_with (first | ((with_reducible refine gate_dst (N := 6) rfl ?_); refine box_event ?hg (N := 6) ?hd (cs := #[.string (⟨#[]⟩ : ByteArray), .slice none 0 0, .bool false, .int .i64 0]) (t := 89) ?hr ?_; (case hd => rfl); (case hg => rfl); (case hr => first | (go_simp; done) | (go_simp; rfl)); intro gr hgx w4 hbox hb; have BX := Aside0.mk hbox; have HBB := Aside0.mk hb; have GX := Aside0.mk hgx; clear hbox hb hgx; have hy0 : w4.cell? ⟨gr, 0, none⟩ = some (.string (⟨#[]⟩ : ByteArray)) := (blk_cell BX.out 0).trans rfl; have hz0 := blk_frozen BX.out 0; have hy1 : w4.cell? ⟨gr, 1, none⟩ = some (.slice none 0 0) := (blk_cell BX.out 1).trans rfl; have hz1 := blk_frozen BX.out 1; have hy2 : w4.cell? ⟨gr, 2, none⟩ = some (.bool false) := (blk_cell BX.out 2).trans rfl; have hz2 := blk_frozen BX.out 2; have hy3 : w4.cell? ⟨gr, 3, none⟩ = some (.int .i64 0) := (blk_cell BX.out 3).trans rfl; have hz3 := blk_frozen BX.out 3) | ((with_reducible refine gate_store (t := 89) (p := 6) rfl ?_); refine store_event (t := 89) (p := 6) (v := .tmp 40) (w1 := ((((w4.setCell ⟨gr, 0, none⟩ (.string (strOfNums (List.replicate n 0)))).setCell ⟨gr, 1, none⟩ (.slice Ar 0 cr)).setCell ⟨gr, 2, none⟩ (.bool false)).setCell ⟨gr, 3, none⟩ (.int .i64 (-1)))) ?hg ?ho ?hn ?hr ?_; (case ho => rfl); (case hg => rfl); (case hn => rfl); (case hr => first | (go_simp; done) | (go_simp; rfl)); intro w5 hw3; have hb5 : Below w3.heap.size w3 w5 := (by rw [hw3]; exact ((((HBB.out.setCell (by rw [GX.out]; exact Nat.le_refl _) _).setCell (by rw [GX.out]; exact Nat.le_refl _) _).setCell (by rw [GX.out]; exact Nat.le_refl _) _).setCell (by rw [GX.out]; exact Nat.le_refl _) _)); have BR5 : w5.heap[gr]? = some (.cells #[.string (strOfNums (List.replicate n 0)), .slice Ar 0 cr, .bool false, .int .i64 (-1)] 89 (0, 0)) := (by rw [hw3]; exact (blk_put (blk_put (blk_put (blk_put BX.out 0 _ rfl) 1 _ rfl) 2 _ rfl) 3 _ rfl)); have BR5 := Aside0.mk BR5; have HB5 := Aside0.mk (below_step HB3.out hb5); have HD5 := Aside0.mk (HD3.out.below hb5); have HR5 := Aside0.mk (Kd.R_below HR3.out hb5); clear hw3 hb5 hy0 hz0 hy1 hz1 hy2 hz2 hy3 hz3 BX HBB))
      have G3 := Aside0.mk (show w3.heap.size ≤ gr by rw [GX.out]; exact Nat.le_refl _)
      have HGE := Aside0.mk (show w.heap.size ≤ gr from Nat.le_trans HB3.out.size G3.out)
      have HRR := Aside0.mk (show Ref w.heap.size (fun k => w2.heap.size ≤ k ∧ k < w3.heap.size) Sd0 w5 gr (newD n) 0 from ⟨⟨_, _, BR5.out, Kd.R_lower HR5.out HB2.out.size, ArmR.new 0⟩, fun k hk => by have h1 := G3.out; have h2 := blk_lt BR5.out; have h3 := hk.2; omega, fun k hk => ⟨fun hs => by have h1 := HD2.out.lt k hs; have h2 := hk.1; omega, fun e => by have h1 := G3.out; have h2 := hk.2; omega⟩, fun hs => by have h1 := HD3.out.lt gr hs; have h2 := G3.out; omega⟩)
      go_loopg [7] M (fun kq v7 w' => ∃ (i : Nat) (Sd P : Nat → Prop) (d : D), v7 = .int .i64 (i : Int) ∧ Aside0 (i + kq = M) ∧ Aside0 (Dev Sd w' gd d) ∧ Aside0 (Ref w.heap.size P Sd w' gr d i) ∧ Aside0 (d.b.length = n ∧ d.ws.length ≤ i) ∧ Aside0 (∀ k, Sd k → w.heap.size ≤ k) ∧ Aside0 (Below w.heap.size w w'))
      case atStart => exact ⟨0, Sd0, _, newD n, rfl, ⟨Nat.zero_add _⟩, HD5, HRR, ⟨List.length_replicate .., Nat.le_refl _⟩, HS1, HB5⟩
      case round =>
        clear HD5 HRR HS1 HB5 HD2 HD3 HR3 HR5 BR5 S23 HB2 HB3 HB G3 GX
        obtain ⟨i, Sd, P, d, rfl, HK, HD, HR, HL, HS, HB⟩ := hrel
        cases gk with
        | zero =>
          by_cases q : i < l.length
          · have q1 := eq_true q
            have h60 : (60 : Int) ≤ (i : Int) := by have := HK.out; have := HM3.out; omega
            have q2 : decide ((i : Int) < 60) = false := decide_eq_false (by omega)
            have q3 : (i < 60) = False := eq_false (by omega)
            clear q h60
            go_wp2_with fail
            refine (heads_calls _).mono ?_
            rintro e wh ⟨rfl, hb⟩
            have HBh := Aside0.mk (below_step HB.out hb)
            clear hb
            go_wp2_with fail
            go_ret
            exact ⟨rfl, HBh.out⟩
          · have q1 := eq_false q
            clear q
            go_wp2_with fail
            refine (heads_calls _).mono ?_
            rintro e wh ⟨rfl, hb⟩
            have HBh := Aside0.mk (below_step HB.out hb)
            clear hb
            go_wp2_with fail
            go_ret
            exact ⟨rfl, HBh.out⟩
        | succ k1 =>
          have hin : i < l.length := by have := HK.out; have := HM1.out; omega
          have hi60 : i < 60 := by have := HK.out; have := HM2.out; omega
          obtain ⟨ad, B, cb, hA, hx0, hx1, hx2, hx3, hl1, hF1⟩ := at_92F (Kd.F_step HF.out (fun k hk _ => HB.out.block k hk)) i hin
          subst hA
          have hby := HBY.out _ (rd92_mem l i hin)
          have p0 : ((0 : Int) ≤ (i : Int)) = True := eq_true (by omega)
          have q1 : (i < l.length) = True := eq_true hin
          have q2 : decide ((i : Int) < 60) = true := decide_eq_true (by omega)
          have q3 : (i < 60) = True := eq_true hi60
          generalize rd92 l i = x at *
          have HX := Aside0.mk hF1
          have HBX := Aside0.mk hby
          have HL1 := Aside0.mk hl1
          have hi2 := Aside0.mk hi60
          have HG := Aside0.mk HD.out.lt
          have HGP := Aside0.mk HR.out.lt
          have HGR := Aside0.mk HR.out.glt
          clear hF1 hby hl1 hin hi60
          by_cases k0 : x.k = 0
          · have HK0 := Aside0.mk k0
            clear k0 
            by_cases cl : (1000 : Int) < (x.b.length : Int)
            · have cb3 : decide ((1000 : Int) < (x.b.length : Int)) = true := decide_eq_true cl
              clear cl
              go_wp2_with (first | ((with_reducible refine gate_dst (N := 8) rfl ?_); refine box_event ?hg (N := 8) ?hd (cs := #[.int .i64 0, .int .i64 0, .int .i64 0, .slice none 0 0]) (t := 92) ?hr ?_; (case hd => rfl); (case hg => rfl); (case hr => first | (go_simp; done) | (go_simp; rfl)); intro gx hgx w2 hbox hb; have BX := Aside0.mk hbox; have HBB := Aside0.mk hb; have GX := Aside0.mk hgx; clear hbox hb hgx; have hy0 : w2.cell? ⟨gx, 0, none⟩ = some (.int .i64 0) := (blk_cell BX.out 0).trans rfl; have hz0 := blk_frozen BX.out 0; have hy1 : w2.cell? ⟨gx, 1, none⟩ = some (.int .i64 0) := (blk_cell BX.out 1).trans rfl; have hz1 := blk_frozen BX.out 1; have hy2 : w2.cell? ⟨gx, 2, none⟩ = some (.int .i64 0) := (blk_cell BX.out 2).trans rfl; have hz2 := blk_frozen BX.out 2; have hy3 : w2.cell? ⟨gx, 3, none⟩ = some (.slice none 0 0) := (blk_cell BX.out 3).trans rfl; have hz3 := blk_frozen BX.out 3) | ((with_reducible refine gate_store (t := 92) (p := 8) rfl ?_); refine store_event (t := 92) (p := 8) (v := .tmp 54) (w1 := ((((w2.setCell ⟨gx, 0, none⟩ (.int .i64 x.k)).setCell ⟨gx, 1, none⟩ (.int .i64 x.a)).setCell ⟨gx, 2, none⟩ (.int .i64 x.n)).setCell ⟨gx, 3, none⟩ (.slice B x.b.length cb))) ?hg ?ho ?hn ?hr ?_; (case ho => rfl); (case hg => rfl); (case hn => rfl); (case hr => first | (go_simp; done) | (go_simp; rfl)); intro w3 hw3; have hb3 : Below wr.heap.size wr w3 := (by rw [hw3]; exact ((((HBB.out.setCell (by rw [GX.out]; exact Nat.le_refl _) _).setCell (by rw [GX.out]; exact Nat.le_refl _) _).setCell (by rw [GX.out]; exact Nat.le_refl _) _).setCell (by rw [GX.out]; exact Nat.le_refl _) _)); have BX3 : w3.heap[gx]? = some (.cells #[.int .i64 x.k, .int .i64 x.a, .int .i64 x.n, .slice B x.b.length cb] 92 (0, 0)) := (by rw [hw3]; exact (blk_put (blk_put (blk_put (blk_put BX.out 0 _ rfl) 1 _ rfl) 2 _ rfl) 3 _ rfl)); have BX3 := Aside0.mk BX3; have HB3 := Aside0.mk (below_step HB.out hb3); have HD3 := Aside0.mk (HD.out.below hb3); have HR3 := Aside0.mk (HR.out.below hb3); have HX3 := Aside0.mk (Kd.F_below HX.out hb3); clear hw3 hb3 hy0 hz0 hy1 hz1 hy2 hz2 hy3 hz3 BX HBB; have hc0 : w3.cell? ⟨gx, 0, none⟩ = some (.int .i64 (0)) := (blk_cell BX3.out 0).trans (show some (Value.int IntKind.i64 x.k) = some (Value.int IntKind.i64 0) from congrArg (fun z => some (Value.int IntKind.i64 z)) HK0.out); have hc1 : w3.cell? ⟨gx, 1, none⟩ = some (.int .i64 x.a) := (blk_cell BX3.out 1).trans rfl; have hc2 : w3.cell? ⟨gx, 2, none⟩ = some (.int .i64 x.n) := (blk_cell BX3.out 2).trans rfl; have hc3 : w3.cell? ⟨gx, 3, none⟩ = some (.slice B x.b.length cb) := (blk_cell BX3.out 3).trans rfl))
              refine (heads_calls _).mono ?_
              rintro e wh ⟨rfl, hb⟩
              have HBh := Aside0.mk (below_step HB3.out hb)
              clear hb
              go_wp2_with fail
              go_ret
              exact ⟨rfl, HBh.out⟩
            · have cb3 : decide ((1000 : Int) < (x.b.length : Int)) = false := decide_eq_false cl
              clear cl
              go_wp2_with (first | ((with_reducible refine gate_dst (N := 8) rfl ?_); refine box_event ?hg (N := 8) ?hd (cs := #[.int .i64 0, .int .i64 0, .int .i64 0, .slice none 0 0]) (t := 92) ?hr ?_; (case hd => rfl); (case hg => rfl); (case hr => first | (go_simp; done) | (go_simp; rfl)); intro gx hgx w2 hbox hb; have BX := Aside0.mk hbox; have HBB := Aside0.mk hb; have GX := Aside0.mk hgx; clear hbox hb hgx; have hy0 : w2.cell? ⟨gx, 0, none⟩ = some (.int .i64 0) := (blk_cell BX.out 0).trans rfl; have hz0 := blk_frozen BX.out 0; have hy1 : w2.cell? ⟨gx, 1, none⟩ = some (.int .i64 0) := (blk_cell BX.out 1).trans rfl; have hz1 := blk_frozen BX.out 1; have hy2 : w2.cell? ⟨gx, 2, none⟩ = some (.int .i64 0) := (blk_cell BX.out 2).trans rfl; have hz2 := blk_frozen BX.out 2; have hy3 : w2.cell? ⟨gx, 3, none⟩ = some (.slice none 0 0) := (blk_cell BX.out 3).trans rfl; have hz3 := blk_frozen BX.out 3) | ((with_reducible refine gate_store (t := 92) (p := 8) rfl ?_); refine store_event (t := 92) (p := 8) (v := .tmp 54) (w1 := ((((w2.setCell ⟨gx, 0, none⟩ (.int .i64 x.k)).setCell ⟨gx, 1, none⟩ (.int .i64 x.a)).setCell ⟨gx, 2, none⟩ (.int .i64 x.n)).setCell ⟨gx, 3, none⟩ (.slice B x.b.length cb))) ?hg ?ho ?hn ?hr ?_; (case ho => rfl); (case hg => rfl); (case hn => rfl); (case hr => first | (go_simp; done) | (go_simp; rfl)); intro w3 hw3; have hb3 : Below wr.heap.size wr w3 := (by rw [hw3]; exact ((((HBB.out.setCell (by rw [GX.out]; exact Nat.le_refl _) _).setCell (by rw [GX.out]; exact Nat.le_refl _) _).setCell (by rw [GX.out]; exact Nat.le_refl _) _).setCell (by rw [GX.out]; exact Nat.le_refl _) _)); have BX3 : w3.heap[gx]? = some (.cells #[.int .i64 x.k, .int .i64 x.a, .int .i64 x.n, .slice B x.b.length cb] 92 (0, 0)) := (by rw [hw3]; exact (blk_put (blk_put (blk_put (blk_put BX.out 0 _ rfl) 1 _ rfl) 2 _ rfl) 3 _ rfl)); have BX3 := Aside0.mk BX3; have HB3 := Aside0.mk (below_step HB.out hb3); have HD3 := Aside0.mk (HD.out.below hb3); have HR3 := Aside0.mk (HR.out.below hb3); have HX3 := Aside0.mk (Kd.F_below HX.out hb3); clear hw3 hb3 hy0 hz0 hy1 hz1 hy2 hz2 hy3 hz3 BX HBB; have hc0 : w3.cell? ⟨gx, 0, none⟩ = some (.int .i64 (0)) := (blk_cell BX3.out 0).trans (show some (Value.int IntKind.i64 x.k) = some (Value.int IntKind.i64 0) from congrArg (fun z => some (Value.int IntKind.i64 z)) HK0.out); have hc1 : w3.cell? ⟨gx, 1, none⟩ = some (.int .i64 x.a) := (blk_cell BX3.out 1).trans rfl; have hc2 : w3.cell? ⟨gx, 2, none⟩ = some (.int .i64 x.n) := (blk_cell BX3.out 2).trans rfl; have hc3 : w3.cell? ⟨gx, 3, none⟩ = some (.slice B x.b.length cb) := (blk_cell BX3.out 3).trans rfl))
              have hn1000 : i ≤ 1000 := by have := hi2.out; omega
              have hw1m : d.ws.length ≤ 1000000 := by have := HL.out.2; have := hi2.out; omega
              refine (write_calls HD3.out x.a B cb x.b (Kd.F_mono HX3.out (fun k hk h => by have := HS.out k h; omega)) HL1.out hw1m).mono ?_
              rintro e w5 ⟨rfl, hw5, Sd5, hd5, hs5⟩
              obtain ⟨dz, hdz⟩ : ∃ dz, dz = (writeD d x.a x.b).1 := ⟨_, rfl⟩
              obtain ⟨qz, hqz⟩ : ∃ qz, qz = (writeD d x.a x.b).2 := ⟨_, rfl⟩
              rw [← hdz] at hd5
              rw [← hqz]
              have ZD5 := Aside0.mk hd5
              have HR5 := Aside0.mk (HR3.out.went hw5 (Sd' := Sd5) hs5)
              have HB5 := Aside0.mk (HB3.out.trans (hw5.to_below HB3.out.size HS.out))
              have BX5 := Aside0.mk (blk_kept BX3.out hw5.kept (fun h => by have h1 := HG.out gx h; have h2 := GX.out; omega))
              have HX5 := Aside0.mk (Kd.F_kept HX3.out hw5.kept (fun k hk h => by have := HS.out k h; omega))
              have ZS := Aside0.mk (show ∀ k, Sd5 k → w.heap.size ≤ k from fun k hk => (hs5 k hk).elim (HS.out k) (fun h => Nat.le_trans HB3.out.size h))
              have ZL := Aside0.mk (show dz.b.length = n by rw [hdz, writeD_b]; exact HL.out.1)
              have ZW := Aside0.mk (show dz.ws.length ≤ i + 1 by rw [hdz]; exact Nat.le_trans (writeD_ws d x.a x.b) (Nat.succ_le_succ HL.out.2))
              clear hw5 hd5 hs5 hc0 hc1 hc2 hc3
              obtain ⟨vr, arm, hg1, hg2, hg3⟩ := HR5.out.at_
              obtain ⟨Ar, cr, hvr⟩ := Kd.R_slice hg2
              subst hvr
              have hr0 : w5.cell? ⟨gr, 0, none⟩ = some (.string (strOfNums d.b)) := (blk_cell hg1 0).trans rfl
              have hr1 : w5.cell? ⟨gr, 1, none⟩ = some (.slice Ar (wS d.ws).length cr) := (blk_cell hg1 1).trans rfl
              have hr2 : w5.cell? ⟨gr, 2, none⟩ = some (.bool d.dead) := (blk_cell hg1 2).trans rfl
              have hr3 : w5.cell? ⟨gr, 3, none⟩ = some (.int .i64 arm) := (blk_cell hg1 3).trans rfl
              have HG2 := Aside0.mk hg2
              have HG3 := Aside0.mk hg3
              have BRR := Aside0.mk hg1
              clear hg1 hg2 hg3
              have hc1 : w5.cell? ⟨gx, 1, none⟩ = some (.int .i64 x.a) := (blk_cell BX5.out 1).trans rfl
              have hc3 : w5.cell? ⟨gx, 3, none⟩ = some (.slice B x.b.length cb) := (blk_cell BX5.out 3).trans rfl
              have hcv := Kd.C_string (P := Try.prog) (A := B) (c := cb) Try.underlying44 Try.underlying5 Try.underlying9 (Kd.F_now HX5.out)
              obtain ⟨arm', hwr, ha⟩ := rwrite_eq HG3.out hn1000 hw1m x.a x.b
              rw [← hdz, ← hqz] at hwr
              rw [← hdz] at ha
              have HWR := Aside0.mk hwr
              have HA6 := Aside0.mk ha
              clear hwr ha hdz hqz hn1000 hw1m
              go_wp2_with fail
              refine (horariumref48_Write.calls (strOfNums d.b) P (.slice Ar (wS d.ws).length cr) (wS d.ws) d.dead arm x.a (strOfNums x.b) _ _ _ _ _ w w5 HB5.out HG2.out HWR.out).mono ?_
              rintro e w6 ⟨v6, rfl, hr6, hb6, hk6⟩
              obtain ⟨A6, c6, hv6⟩ := Kd.R_slice hr6
              subst hv6
              have HR6 := Aside0.mk hr6
              have HB6 := Aside0.mk hb6
              have HK6 := Aside0.mk hk6
              clear hr6 hb6 hk6 hcv hc1 hc3 hr0 hr1 hr2 hr3
              have BR6 := Aside0.mk (blk_kept BRR.out HK6.out (fun hp => (HR5.out.off gr hp).2 rfl))
              have hy0 : w6.cell? ⟨gr, 0, none⟩ = some (.string (strOfNums d.b)) := (blk_cell BR6.out 0).trans rfl
              have hz0 := blk_frozen BR6.out 0
              have hy1 : w6.cell? ⟨gr, 1, none⟩ = some (.slice Ar (wS d.ws).length cr) := (blk_cell BR6.out 1).trans rfl
              have hz1 := blk_frozen BR6.out 1
              have hy2 : w6.cell? ⟨gr, 2, none⟩ = some (.bool d.dead) := (blk_cell BR6.out 2).trans rfl
              have hz2 := blk_frozen BR6.out 2
              have hy3 : w6.cell? ⟨gr, 3, none⟩ = some (.int .i64 arm) := (blk_cell BR6.out 3).trans rfl
              have hz3 := blk_frozen BR6.out 3
              go_wp2_with ((with_reducible refine gate_store (t := 89) (p := 6) rfl ?_); refine store_event (t := 89) (p := 6) (v := .tmp 80) (w1 := ((((w6.setCell ⟨gr, 0, none⟩ (.string (strOfNums dz.b))).setCell ⟨gr, 1, none⟩ (.slice A6 (wS dz.ws).length c6)).setCell ⟨gr, 2, none⟩ (.bool dz.dead)).setCell ⟨gr, 3, none⟩ (.int .i64 arm'))) ?hg ?ho ?hn ?hr ?_; (case ho => rfl); (case hg => rfl); (case hn => rfl); (case hr => first | (go_simp; done) | (go_simp; rfl)); intro w7 hw3; obtain ⟨⟨Pz, hpz⟩, hdz7, _⟩ := ref_put HR5.out ZD5.out HK6.out HR6.out HA6.out hw3; have ZR := Aside0.mk hpz; have ZD := Aside0.mk hdz7; have ZB := Aside0.mk (show Below w.heap.size w w7 by rw [hw3]; exact (((HB6.out.setCell (p := ⟨gr, 0, none⟩) HGE.out _).setCell (p := ⟨gr, 1, none⟩) HGE.out _).setCell (p := ⟨gr, 2, none⟩) HGE.out _).setCell (p := ⟨gr, 3, none⟩) HGE.out _); clear hw3 hpz hdz7 hy0 hy1 hy2 hy3 hz0 hz1 hz2 hz3)
              obtain ⟨vr, arm, hg1, hg2, hg3⟩ := ZR.out.at_
              have hy0 : w7.cell? ⟨gr, 0, none⟩ = some (.string (strOfNums dz.b)) := (blk_cell hg1 0).trans rfl
              clear hg2 hg3
              go_wp2_with fail
              refine start_ (n := 17) (S := fun w' => w'.cell? ⟨gr, 0, none⟩ = some (.string (strOfNums dz.b))) (ds := []) #[false, false, false, false, false, false, false, false, false, false, false, false, false, false, false, false, false] (by kernel_rfl) rfl rfl hy0 (fun hHeld => ?_); refine with_tabW dev37.tab dev37.bits (fun HT_ HW_ => ?_)
              have YD := Aside0.mk (ZD.out.below (below_drew (Below.refl _ _))); have YR := Aside0.mk (ZR.out.below (below_drew (Below.refl _ _))); have YB := Aside0.mk (below_drew1 ZB.out); clear ZD ZR ZB hg1 hy0; generalize w7.drew = wy at YD YR YB hHeld ⊢
              refine pure_ (i := 0) (N := some 137) (v := ?_) (a' := ?_) #[true, false, false, false, false, false, false, false, false, false, false, false, false, false, false, false, false] rfl rfl (any_of HT_.out (by kernel_rfl)) (fun _ _ _ h => h) (Or.inl ⟨by rfl, ?_⟩) ?_ ?_
              rotate_left
              · intro w'
                go_simp
                with_reducible rfl
              rotate_left
              · simp only [Act.put, List.setIfInBounds_toArray, List.set_cons_zero, List.set_cons_succ, i64_w, i32_w]
                rfl
              refine pure_ (i := 1) (N := some 138) (v := ?_) (a' := ?_) #[true, true, false, false, false, false, false, false, false, false, false, false, false, false, false, false, false] rfl rfl (any_of HT_.out (by kernel_rfl)) (fun _ _ _ h => h) (Or.inl ⟨by rfl, ?_⟩) ?_ ?_
              rotate_left
              · intro w'
                go_simp
                with_reducible rfl
              rotate_left
              · simp only [Act.put, List.setIfInBounds_toArray, List.set_cons_zero, List.set_cons_succ, i64_w, i32_w]
                rfl
              refine pure_ (i := 2) (N := some 139) (v := ?_) (a' := ?_) #[true, true, true, false, false, false, false, false, false, false, false, false, false, false, false, false, false] rfl rfl (any_of HT_.out (by kernel_rfl)) (fun _ _ _ h => h) (Or.inl ⟨by rfl, ?_⟩) ?_ ?_
              rotate_left
              · intro w'
                go_simp
                with_reducible rfl
              rotate_left
              · simp only [Act.put, List.setIfInBounds_toArray, List.set_cons_zero, List.set_cons_succ, i64_w, i32_w]
                rfl
              refine pure_ (i := 3) (N := some 140) (v := ?_) (a' := ?_) #[true, true, true, true, false, false, false, false, false, false, false, false, false, false, false, false, false] rfl rfl (any_of HT_.out (by kernel_rfl)) (fun _ _ _ h => h) (Or.inl ⟨by rfl, ?_⟩) ?_ ?_
              rotate_left
              · intro w'
                go_simp
                with_reducible rfl
              rotate_left
              · simp only [Act.put, List.setIfInBounds_toArray, List.set_cons_zero, List.set_cons_succ, i64_w, i32_w]
                rfl
              refine pure_ (i := 4) (N := some 141) (v := ?_) (a' := ?_) #[true, true, true, true, true, false, false, false, false, false, false, false, false, false, false, false, false] rfl rfl (any_of HT_.out (by kernel_rfl)) (fun _ _ _ h => h) (Or.inl ⟨by rfl, ?_⟩) ?_ ?_
              rotate_left
              · intro w'
                go_simp
                with_reducible rfl
              rotate_left
              · simp only [Act.put, List.setIfInBounds_toArray, List.set_cons_zero, List.set_cons_succ, i64_w, i32_w]
                rfl
              refine pure_ (i := 7) (N := some 144) (v := ?_) (a' := ?_) #[true, true, true, true, true, false, false, true, false, false, false, false, false, false, false, false, false] rfl rfl (any_of HT_.out (by kernel_rfl)) (fun _ _ _ h => h) (Or.inl ⟨by rfl, ?_⟩) ?_ ?_
              rotate_left
              · intro w'
                go_simp
                with_reducible rfl
              rotate_left
              · simp only [Act.put, List.setIfInBounds_toArray, List.set_cons_zero, List.set_cons_succ, i64_w, i32_w]
                rfl
              refine take_ (i := 8) (N := some 145) (v := ?_) (a' := ?_) #[true, true, true, true, true, false, false, true, true, false, false, false, false, false, false, false, false] rfl rfl (take_ofW HT_.out HW_.out (by kernel_rfl)) (fun _ _ _ h => h) (Or.inl ⟨by rfl, ?_⟩) hHeld ?_ ?_
              rotate_left
              · rintro w' s0
                go_simp
                with_reducible rfl
              rotate_left
              · simp only [Act.put, List.setIfInBounds_toArray, List.set_cons_zero, List.set_cons_succ, i64_w, i32_w]
                rfl
              refine one_ (i := 5) (N := some 142) #[true, true, true, true, true, true, false, true, true, false, false, false, false, false, false, false, false] rfl rfl (one_of HT_.out (by kernel_rfl)) (by decide) (fun K hK => ?_)
              refine goes_ Try.func85 (by kernel_rfl) rfl #[.pointer (some ⟨gd, 0, none⟩)] (by rfl) rfl rfl (by (try simp only [List.map_toArray, List.map_cons, List.map_nil]); first | done | rfl) ?_
              refine (bytes_calls YD.out).mono ?_
              rintro e wx ⟨vx, rfl, hrx, hbx⟩
              refine ⟨_, rfl, ?_⟩
              have XD := Aside0.mk (YD.out.below hbx)
              have XR := Aside0.mk (YR.out.below hbx)
              have XB := Aside0.mk (below_step YB.out hbx)
              have HRX := Aside0.mk hrx
              clear hrx hbx YD YR YB
              obtain ⟨vr', arm', hg1, hg2, hg3⟩ := XR.out.at_
              clear hg2 hg3
              refine hK.out _ _ ((blk_cell hg1 0).trans rfl) (fun hHeld => ?_)
              clear hK K
              refine norm_ (a' := ?_) ?_ ?_
              rotate_left
              · show Act.put _ (some 142) _ = _
                simp only [Act.put, List.setIfInBounds_toArray, List.set_cons_zero, List.set_cons_succ, i64_w, i32_w]
                rfl
              clear hg1
              obtain ⟨Ax, cx, hvx⟩ := Kd.R_slice HRX.out
              subst hvx
              refine one_ (i := 6) (N := some 143) #[true, true, true, true, true, true, true, true, true, false, false, false, false, false, false, false, false] rfl rfl (one_of HT_.out (by kernel_rfl)) (by decide) (fun K hK => ?_)
              have hcv := own_string (P := Try.prog) Try.underlying44 Try.underlying5 Try.underlying9 (Kd.own_of_R HRX.out)
              refine event_step (by rfl) (v := .string (strOfNums dz.b)) (w1 := wx) ?hr ?_; (case hr => first | (go_simp; done) | (go_simp; rfl))
              clear hcv
              refine hK.out _ _ hHeld (fun hHeld => ?_)
              clear hK K
              refine norm_ (a' := ?_) ?_ ?_
              rotate_left
              · show Act.put _ (some 143) _ = _
                simp only [Act.put, List.setIfInBounds_toArray, List.set_cons_zero, List.set_cons_succ, i64_w, i32_w]
                rfl
              refine pure_ (i := 9) (N := some 146) (v := ?_) (a' := ?_) #[true, true, true, true, true, true, true, true, true, true, false, false, false, false, false, false, false] rfl rfl (any_of HT_.out (by kernel_rfl)) (fun _ _ _ h => h) (Or.inl ⟨by rfl, ?_⟩) ?_ ?_
              rotate_left
              · intro w'
                go_simp
                with_reducible rfl
              rotate_left
              · simp only [Act.put, List.setIfInBounds_toArray, List.set_cons_zero, List.set_cons_succ, i64_w, i32_w]
                rfl
              refine pure_ (i := 10) (N := some 147) (v := ?_) (a' := ?_) #[true, true, true, true, true, true, true, true, true, true, true, false, false, false, false, false, false] rfl rfl (any_of HT_.out (by kernel_rfl)) (fun _ _ _ h => h) (Or.inl ⟨by rfl, ?_⟩) ?_ ?_
              rotate_left
              · intro w'
                go_simp
                with_reducible rfl
              rotate_left
              · simp only [Act.put, List.setIfInBounds_toArray, List.set_cons_zero, List.set_cons_succ, i64_w, i32_w]
                rfl
              refine pure_ (i := 11) (N := some 148) (v := ?_) (a' := ?_) #[true, true, true, true, true, true, true, true, true, true, true, true, false, false, false, false, false] rfl rfl (any_of HT_.out (by kernel_rfl)) (fun _ _ _ h => h) (Or.inl ⟨by rfl, ?_⟩) ?_ ?_
              rotate_left
              · intro w'
                go_simp
                with_reducible rfl
              rotate_left
              · simp only [Act.put, List.setIfInBounds_toArray, List.set_cons_zero, List.set_cons_succ, i64_w, i32_w]
                rfl
              refine pure_ (i := 12) (N := some 149) (v := ?_) (a' := ?_) #[true, true, true, true, true, true, true, true, true, true, true, true, true, false, false, false, false] rfl rfl (any_of HT_.out (by kernel_rfl)) (fun _ _ _ h => h) (Or.inl ⟨by rfl, ?_⟩) ?_ ?_
              rotate_left
              · intro w'
                go_simp
                with_reducible rfl
              rotate_left
              · simp only [Act.put, List.setIfInBounds_toArray, List.set_cons_zero, List.set_cons_succ, i64_w, i32_w]
                rfl
              refine pure_ (i := 14) (N := some 151) (v := ?_) (a' := ?_) #[true, true, true, true, true, true, true, true, true, true, true, true, true, false, true, false, false] rfl rfl (any_of HT_.out (by kernel_rfl)) (fun _ _ _ h => h) (Or.inl ⟨by rfl, ?_⟩) ?_ ?_
              rotate_left
              · intro w'
                go_simp
                with_reducible rfl
              rotate_left
              · simp only [Act.put, List.setIfInBounds_toArray, List.set_cons_zero, List.set_cons_succ, i64_w, i32_w]
                rfl
              refine one_ (i := 13) (N := some 150) #[true, true, true, true, true, true, true, true, true, true, true, true, true, true, true, false, false] rfl rfl (one_of HT_.out (by kernel_rfl)) (by decide) (fun K hK => ?_)
              refine goes_ Try.func75 (by kernel_rfl) rfl #[.pointer (some ⟨gd, 0, none⟩)] (by rfl) rfl rfl (by (try simp only [List.map_toArray, List.map_cons, List.map_nil]); first | done | rfl) ?_
              refine (size_calls XD.out).mono ?_
              rintro e wv ⟨rfl, hbv⟩
              refine ⟨_, rfl, ?_⟩
              rw [ZL.out]
              have VD := Aside0.mk (XD.out.below hbv)
              have VR := Aside0.mk (XR.out.below hbv)
              have VB := Aside0.mk (below_step XB.out hbv)
              clear hbv XD XR XB
              obtain ⟨vr', arm', hg1, hg2, hg3⟩ := VR.out.at_
              clear hg2 hg3
              refine hK.out _ _ ((blk_cell hg1 0).trans rfl) (fun hHeld => ?_)
              clear hK K
              refine norm_ (a' := ?_) ?_ ?_
              rotate_left
              · show Act.put _ (some 150) _ = _
                simp only [Act.put, List.setIfInBounds_toArray, List.set_cons_zero, List.set_cons_succ, i64_w, i32_w]
                rfl
              clear hg1
              refine pure_ (i := 15) (N := some 152) (v := ?_) (a' := ?_) #[true, true, true, true, true, true, true, true, true, true, true, true, true, true, true, true, false] rfl rfl (any_of HT_.out (by kernel_rfl)) (fun _ _ _ h => h) (Or.inl ⟨by rfl, ?_⟩) ?_ ?_
              rotate_left
              · intro w'
                go_simp
                with_reducible rfl
              rotate_left
              · simp only [Act.put, List.setIfInBounds_toArray, List.set_cons_zero, List.set_cons_succ, i64_w, i32_w]
                rfl
              refine pure_ (i := 16) (N := some 153) (v := ?_) (a' := ?_) #[true, true, true, true, true, true, true, true, true, true, true, true, true, true, true, true, true] rfl rfl (any_of HT_.out (by kernel_rfl)) (fun _ _ _ h => h) (Or.inl ⟨by rfl, ?_⟩) ?_ ?_
              rotate_left
              · intro w'
                go_simp
                with_reducible rfl
              rotate_left
              · simp only [Act.put, List.setIfInBounds_toArray, List.set_cons_zero, List.set_cons_succ, i64_w, i32_w]
                rfl
              refine done_ (done_of HT_.out (by kernel_rfl)) ?_
              go_wp2_with fail
              go_roundg k1
              case measure => omega
              case rel => exact ⟨i + 1, Sd5, Pz, dz, (by have h_ : wrap64 ((i : Int) + 1) = ((i + 1 : Nat) : Int) := (by have := hi2.out; unfold wrap64; omega); rw [h_]), ⟨by have := HK.out; omega⟩, VD, VR, ⟨ZL.out, ZW.out⟩, ZS, VB⟩
          · have e0 : (x.k == 0) = false := beq_eq_false_iff_ne.mpr k0
            clear k0
            by_cases k1 : x.k = 1
            · have HK0 := Aside0.mk k1
              clear k1 e0
              by_cases cl : (1000 : Int) < (x.b.length : Int)
              · have cb3 : decide ((1000 : Int) < (x.b.length : Int)) = true := decide_eq_true cl
                clear cl
                go_wp2_with (first | ((with_reducible refine gate_dst (N := 8) rfl ?_); refine box_event ?hg (N := 8) ?hd (cs := #[.int .i64 0, .int .i64 0, .int .i64 0, .slice none 0 0]) (t := 92) ?hr ?_; (case hd => rfl); (case hg => rfl); (case hr => first | (go_simp; done) | (go_simp; rfl)); intro gx hgx w2 hbox hb; have BX := Aside0.mk hbox; have HBB := Aside0.mk hb; have GX := Aside0.mk hgx; clear hbox hb hgx; have hy0 : w2.cell? ⟨gx, 0, none⟩ = some (.int .i64 0) := (blk_cell BX.out 0).trans rfl; have hz0 := blk_frozen BX.out 0; have hy1 : w2.cell? ⟨gx, 1, none⟩ = some (.int .i64 0) := (blk_cell BX.out 1).trans rfl; have hz1 := blk_frozen BX.out 1; have hy2 : w2.cell? ⟨gx, 2, none⟩ = some (.int .i64 0) := (blk_cell BX.out 2).trans rfl; have hz2 := blk_frozen BX.out 2; have hy3 : w2.cell? ⟨gx, 3, none⟩ = some (.slice none 0 0) := (blk_cell BX.out 3).trans rfl; have hz3 := blk_frozen BX.out 3) | ((with_reducible refine gate_store (t := 92) (p := 8) rfl ?_); refine store_event (t := 92) (p := 8) (v := .tmp 54) (w1 := ((((w2.setCell ⟨gx, 0, none⟩ (.int .i64 x.k)).setCell ⟨gx, 1, none⟩ (.int .i64 x.a)).setCell ⟨gx, 2, none⟩ (.int .i64 x.n)).setCell ⟨gx, 3, none⟩ (.slice B x.b.length cb))) ?hg ?ho ?hn ?hr ?_; (case ho => rfl); (case hg => rfl); (case hn => rfl); (case hr => first | (go_simp; done) | (go_simp; rfl)); intro w3 hw3; have hb3 : Below wr.heap.size wr w3 := (by rw [hw3]; exact ((((HBB.out.setCell (by rw [GX.out]; exact Nat.le_refl _) _).setCell (by rw [GX.out]; exact Nat.le_refl _) _).setCell (by rw [GX.out]; exact Nat.le_refl _) _).setCell (by rw [GX.out]; exact Nat.le_refl _) _)); have BX3 : w3.heap[gx]? = some (.cells #[.int .i64 x.k, .int .i64 x.a, .int .i64 x.n, .slice B x.b.length cb] 92 (0, 0)) := (by rw [hw3]; exact (blk_put (blk_put (blk_put (blk_put BX.out 0 _ rfl) 1 _ rfl) 2 _ rfl) 3 _ rfl)); have BX3 := Aside0.mk BX3; have HB3 := Aside0.mk (below_step HB.out hb3); have HD3 := Aside0.mk (HD.out.below hb3); have HR3 := Aside0.mk (HR.out.below hb3); have HX3 := Aside0.mk (Kd.F_below HX.out hb3); clear hw3 hb3 hy0 hz0 hy1 hz1 hy2 hz2 hy3 hz3 BX HBB; have hc0 : w3.cell? ⟨gx, 0, none⟩ = some (.int .i64 (1)) := (blk_cell BX3.out 0).trans (show some (Value.int IntKind.i64 x.k) = some (Value.int IntKind.i64 1) from congrArg (fun z => some (Value.int IntKind.i64 z)) HK0.out); have hc1 : w3.cell? ⟨gx, 1, none⟩ = some (.int .i64 x.a) := (blk_cell BX3.out 1).trans rfl; have hc2 : w3.cell? ⟨gx, 2, none⟩ = some (.int .i64 x.n) := (blk_cell BX3.out 2).trans rfl; have hc3 : w3.cell? ⟨gx, 3, none⟩ = some (.slice B x.b.length cb) := (blk_cell BX3.out 3).trans rfl))
                refine (heads_calls _).mono ?_
                rintro e wh ⟨rfl, hb⟩
                have HBh := Aside0.mk (below_step HB3.out hb)
                clear hb
                go_wp2_with fail
                go_ret
                exact ⟨rfl, HBh.out⟩
              · have cb3 : decide ((1000 : Int) < (x.b.length : Int)) = false := decide_eq_false cl
                clear cl
                go_wp2_with (first | ((with_reducible refine gate_dst (N := 8) rfl ?_); refine box_event ?hg (N := 8) ?hd (cs := #[.int .i64 0, .int .i64 0, .int .i64 0, .slice none 0 0]) (t := 92) ?hr ?_; (case hd => rfl); (case hg => rfl); (case hr => first | (go_simp; done) | (go_simp; rfl)); intro gx hgx w2 hbox hb; have BX := Aside0.mk hbox; have HBB := Aside0.mk hb; have GX := Aside0.mk hgx; clear hbox hb hgx; have hy0 : w2.cell? ⟨gx, 0, none⟩ = some (.int .i64 0) := (blk_cell BX.out 0).trans rfl; have hz0 := blk_frozen BX.out 0; have hy1 : w2.cell? ⟨gx, 1, none⟩ = some (.int .i64 0) := (blk_cell BX.out 1).trans rfl; have hz1 := blk_frozen BX.out 1; have hy2 : w2.cell? ⟨gx, 2, none⟩ = some (.int .i64 0) := (blk_cell BX.out 2).trans rfl; have hz2 := blk_frozen BX.out 2; have hy3 : w2.cell? ⟨gx, 3, none⟩ = some (.slice none 0 0) := (blk_cell BX.out 3).trans rfl; have hz3 := blk_frozen BX.out 3) | ((with_reducible refine gate_store (t := 92) (p := 8) rfl ?_); refine store_event (t := 92) (p := 8) (v := .tmp 54) (w1 := ((((w2.setCell ⟨gx, 0, none⟩ (.int .i64 x.k)).setCell ⟨gx, 1, none⟩ (.int .i64 x.a)).setCell ⟨gx, 2, none⟩ (.int .i64 x.n)).setCell ⟨gx, 3, none⟩ (.slice B x.b.length cb))) ?hg ?ho ?hn ?hr ?_; (case ho => rfl); (case hg => rfl); (case hn => rfl); (case hr => first | (go_simp; done) | (go_simp; rfl)); intro w3 hw3; have hb3 : Below wr.heap.size wr w3 := (by rw [hw3]; exact ((((HBB.out.setCell (by rw [GX.out]; exact Nat.le_refl _) _).setCell (by rw [GX.out]; exact Nat.le_refl _) _).setCell (by rw [GX.out]; exact Nat.le_refl _) _).setCell (by rw [GX.out]; exact Nat.le_refl _) _)); have BX3 : w3.heap[gx]? = some (.cells #[.int .i64 x.k, .int .i64 x.a, .int .i64 x.n, .slice B x.b.length cb] 92 (0, 0)) := (by rw [hw3]; exact (blk_put (blk_put (blk_put (blk_put BX.out 0 _ rfl) 1 _ rfl) 2 _ rfl) 3 _ rfl)); have BX3 := Aside0.mk BX3; have HB3 := Aside0.mk (below_step HB.out hb3); have HD3 := Aside0.mk (HD.out.below hb3); have HR3 := Aside0.mk (HR.out.below hb3); have HX3 := Aside0.mk (Kd.F_below HX.out hb3); clear hw3 hb3 hy0 hz0 hy1 hz1 hy2 hz2 hy3 hz3 BX HBB; have hc0 : w3.cell? ⟨gx, 0, none⟩ = some (.int .i64 (1)) := (blk_cell BX3.out 0).trans (show some (Value.int IntKind.i64 x.k) = some (Value.int IntKind.i64 1) from congrArg (fun z => some (Value.int IntKind.i64 z)) HK0.out); have hc1 : w3.cell? ⟨gx, 1, none⟩ = some (.int .i64 x.a) := (blk_cell BX3.out 1).trans rfl; have hc2 : w3.cell? ⟨gx, 2, none⟩ = some (.int .i64 x.n) := (blk_cell BX3.out 2).trans rfl; have hc3 : w3.cell? ⟨gx, 3, none⟩ = some (.slice B x.b.length cb) := (blk_cell BX3.out 3).trans rfl))
                have hn1000 : i ≤ 1000 := by have := hi2.out; omega
                have hw1m : d.ws.length ≤ 1000000 := by have := HL.out.2; have := hi2.out; omega
                refine (write_calls HD3.out x.a B cb x.b (Kd.F_mono HX3.out (fun k hk h => by have := HS.out k h; omega)) HL1.out hw1m).mono ?_
                rintro e w5 ⟨rfl, hw5, Sd5, hd5, hs5⟩
                obtain ⟨dz, hdz⟩ : ∃ dz, dz = (writeD d x.a x.b).1 := ⟨_, rfl⟩
                obtain ⟨qz, hqz⟩ : ∃ qz, qz = (writeD d x.a x.b).2 := ⟨_, rfl⟩
                rw [← hdz] at hd5
                rw [← hqz]
                have ZD5 := Aside0.mk hd5
                have HR5 := Aside0.mk (HR3.out.went hw5 (Sd' := Sd5) hs5)
                have HB5 := Aside0.mk (HB3.out.trans (hw5.to_below HB3.out.size HS.out))
                have BX5 := Aside0.mk (blk_kept BX3.out hw5.kept (fun h => by have h1 := HG.out gx h; have h2 := GX.out; omega))
                have HX5 := Aside0.mk (Kd.F_kept HX3.out hw5.kept (fun k hk h => by have := HS.out k h; omega))
                have ZS := Aside0.mk (show ∀ k, Sd5 k → w.heap.size ≤ k from fun k hk => (hs5 k hk).elim (HS.out k) (fun h => Nat.le_trans HB3.out.size h))
                have ZL := Aside0.mk (show dz.b.length = n by rw [hdz, writeD_b]; exact HL.out.1)
                have ZW := Aside0.mk (show dz.ws.length ≤ i + 1 by rw [hdz]; exact Nat.le_trans (writeD_ws d x.a x.b) (Nat.succ_le_succ HL.out.2))
                clear hw5 hd5 hs5 hc0 hc1 hc2 hc3
                obtain ⟨vr, arm, hg1, hg2, hg3⟩ := HR5.out.at_
                obtain ⟨Ar, cr, hvr⟩ := Kd.R_slice hg2
                subst hvr
                have hr0 : w5.cell? ⟨gr, 0, none⟩ = some (.string (strOfNums d.b)) := (blk_cell hg1 0).trans rfl
                have hr1 : w5.cell? ⟨gr, 1, none⟩ = some (.slice Ar (wS d.ws).length cr) := (blk_cell hg1 1).trans rfl
                have hr2 : w5.cell? ⟨gr, 2, none⟩ = some (.bool d.dead) := (blk_cell hg1 2).trans rfl
                have hr3 : w5.cell? ⟨gr, 3, none⟩ = some (.int .i64 arm) := (blk_cell hg1 3).trans rfl
                have HG2 := Aside0.mk hg2
                have HG3 := Aside0.mk hg3
                have BRR := Aside0.mk hg1
                clear hg1 hg2 hg3
                have hc1 : w5.cell? ⟨gx, 1, none⟩ = some (.int .i64 x.a) := (blk_cell BX5.out 1).trans rfl
                have hc3 : w5.cell? ⟨gx, 3, none⟩ = some (.slice B x.b.length cb) := (blk_cell BX5.out 3).trans rfl
                have hcv := Kd.C_string (P := Try.prog) (A := B) (c := cb) Try.underlying44 Try.underlying5 Try.underlying9 (Kd.F_now HX5.out)
                obtain ⟨arm', hwr, ha⟩ := rwrite_eq HG3.out hn1000 hw1m x.a x.b
                rw [← hdz, ← hqz] at hwr
                rw [← hdz] at ha
                have HWR := Aside0.mk hwr
                have HA6 := Aside0.mk ha
                clear hwr ha hdz hqz hn1000 hw1m
                go_wp2_with fail
                refine (horariumref48_Write.calls (strOfNums d.b) P (.slice Ar (wS d.ws).length cr) (wS d.ws) d.dead arm x.a (strOfNums x.b) _ _ _ _ _ w w5 HB5.out HG2.out HWR.out).mono ?_
                rintro e w6 ⟨v6, rfl, hr6, hb6, hk6⟩
                obtain ⟨A6, c6, hv6⟩ := Kd.R_slice hr6
                subst hv6
                have HR6 := Aside0.mk hr6
                have HB6 := Aside0.mk hb6
                have HK6 := Aside0.mk hk6
                clear hr6 hb6 hk6 hcv hc1 hc3 hr0 hr1 hr2 hr3
                have BR6 := Aside0.mk (blk_kept BRR.out HK6.out (fun hp => (HR5.out.off gr hp).2 rfl))
                have hy0 : w6.cell? ⟨gr, 0, none⟩ = some (.string (strOfNums d.b)) := (blk_cell BR6.out 0).trans rfl
                have hz0 := blk_frozen BR6.out 0
                have hy1 : w6.cell? ⟨gr, 1, none⟩ = some (.slice Ar (wS d.ws).length cr) := (blk_cell BR6.out 1).trans rfl
                have hz1 := blk_frozen BR6.out 1
                have hy2 : w6.cell? ⟨gr, 2, none⟩ = some (.bool d.dead) := (blk_cell BR6.out 2).trans rfl
                have hz2 := blk_frozen BR6.out 2
                have hy3 : w6.cell? ⟨gr, 3, none⟩ = some (.int .i64 arm) := (blk_cell BR6.out 3).trans rfl
                have hz3 := blk_frozen BR6.out 3
                go_wp2_with ((with_reducible refine gate_store (t := 89) (p := 6) rfl ?_); refine store_event (t := 89) (p := 6) (v := .tmp 80) (w1 := ((((w6.setCell ⟨gr, 0, none⟩ (.string (strOfNums dz.b))).setCell ⟨gr, 1, none⟩ (.slice A6 (wS dz.ws).length c6)).setCell ⟨gr, 2, none⟩ (.bool dz.dead)).setCell ⟨gr, 3, none⟩ (.int .i64 arm'))) ?hg ?ho ?hn ?hr ?_; (case ho => rfl); (case hg => rfl); (case hn => rfl); (case hr => first | (go_simp; done) | (go_simp; rfl)); intro w7 hw3; obtain ⟨⟨Pz, hpz⟩, hdz7, _⟩ := ref_put HR5.out ZD5.out HK6.out HR6.out HA6.out hw3; have ZR := Aside0.mk hpz; have ZD := Aside0.mk hdz7; have ZB := Aside0.mk (show Below w.heap.size w w7 by rw [hw3]; exact (((HB6.out.setCell (p := ⟨gr, 0, none⟩) HGE.out _).setCell (p := ⟨gr, 1, none⟩) HGE.out _).setCell (p := ⟨gr, 2, none⟩) HGE.out _).setCell (p := ⟨gr, 3, none⟩) HGE.out _); clear hw3 hpz hdz7 hy0 hy1 hy2 hy3 hz0 hz1 hz2 hz3)
                obtain ⟨vr, arm, hg1, hg2, hg3⟩ := ZR.out.at_
                have hy0 : w7.cell? ⟨gr, 0, none⟩ = some (.string (strOfNums dz.b)) := (blk_cell hg1 0).trans rfl
                clear hg2 hg3
                go_wp2_with fail
                refine start_ (n := 17) (S := fun w' => w'.cell? ⟨gr, 0, none⟩ = some (.string (strOfNums dz.b))) (ds := []) #[false, false, false, false, false, false, false, false, false, false, false, false, false, false, false, false, false] (by kernel_rfl) rfl rfl hy0 (fun hHeld => ?_); refine with_tabW dev37.tab dev37.bits (fun HT_ HW_ => ?_)
                have YD := Aside0.mk (ZD.out.below (below_drew (Below.refl _ _))); have YR := Aside0.mk (ZR.out.below (below_drew (Below.refl _ _))); have YB := Aside0.mk (below_drew1 ZB.out); clear ZD ZR ZB hg1 hy0; generalize w7.drew = wy at YD YR YB hHeld ⊢
                refine pure_ (i := 0) (N := some 137) (v := ?_) (a' := ?_) #[true, false, false, false, false, false, false, false, false, false, false, false, false, false, false, false, false] rfl rfl (any_of HT_.out (by kernel_rfl)) (fun _ _ _ h => h) (Or.inl ⟨by rfl, ?_⟩) ?_ ?_
                rotate_left
                · intro w'
                  go_simp
                  with_reducible rfl
                rotate_left
                · simp only [Act.put, List.setIfInBounds_toArray, List.set_cons_zero, List.set_cons_succ, i64_w, i32_w]
                  rfl
                refine pure_ (i := 1) (N := some 138) (v := ?_) (a' := ?_) #[true, true, false, false, false, false, false, false, false, false, false, false, false, false, false, false, false] rfl rfl (any_of HT_.out (by kernel_rfl)) (fun _ _ _ h => h) (Or.inl ⟨by rfl, ?_⟩) ?_ ?_
                rotate_left
                · intro w'
                  go_simp
                  with_reducible rfl
                rotate_left
                · simp only [Act.put, List.setIfInBounds_toArray, List.set_cons_zero, List.set_cons_succ, i64_w, i32_w]
                  rfl
                refine pure_ (i := 2) (N := some 139) (v := ?_) (a' := ?_) #[true, true, true, false, false, false, false, false, false, false, false, false, false, false, false, false, false] rfl rfl (any_of HT_.out (by kernel_rfl)) (fun _ _ _ h => h) (Or.inl ⟨by rfl, ?_⟩) ?_ ?_
                rotate_left
                · intro w'
                  go_simp
                  with_reducible rfl
                rotate_left
                · simp only [Act.put, List.setIfInBounds_toArray, List.set_cons_zero, List.set_cons_succ, i64_w, i32_w]
                  rfl
                refine pure_ (i := 3) (N := some 140) (v := ?_) (a' := ?_) #[true, true, true, true, false, false, false, false, false, false, false, false, false, false, false, false, false] rfl rfl (any_of HT_.out (by kernel_rfl)) (fun _ _ _ h => h) (Or.inl ⟨by rfl, ?_⟩) ?_ ?_
                rotate_left
                · intro w'
                  go_simp
                  with_reducible rfl
                rotate_left
                · simp only [Act.put, List.setIfInBounds_toArray, List.set_cons_zero, List.set_cons_succ, i64_w, i32_w]
                  rfl
                refine pure_ (i := 4) (N := some 141) (v := ?_) (a' := ?_) #[true, true, true, true, true, false, false, false, false, false, false, false, false, false, false, false, false] rfl rfl (any_of HT_.out (by kernel_rfl)) (fun _ _ _ h => h) (Or.inl ⟨by rfl, ?_⟩) ?_ ?_
                rotate_left
                · intro w'
                  go_simp
                  with_reducible rfl
                rotate_left
                · simp only [Act.put, List.setIfInBounds_toArray, List.set_cons_zero, List.set_cons_succ, i64_w, i32_w]
                  rfl
                refine pure_ (i := 7) (N := some 144) (v := ?_) (a' := ?_) #[true, true, true, true, true, false, false, true, false, false, false, false, false, false, false, false, false] rfl rfl (any_of HT_.out (by kernel_rfl)) (fun _ _ _ h => h) (Or.inl ⟨by rfl, ?_⟩) ?_ ?_
                rotate_left
                · intro w'
                  go_simp
                  with_reducible rfl
                rotate_left
                · simp only [Act.put, List.setIfInBounds_toArray, List.set_cons_zero, List.set_cons_succ, i64_w, i32_w]
                  rfl
                refine take_ (i := 8) (N := some 145) (v := ?_) (a' := ?_) #[true, true, true, true, true, false, false, true, true, false, false, false, false, false, false, false, false] rfl rfl (take_ofW HT_.out HW_.out (by kernel_rfl)) (fun _ _ _ h => h) (Or.inl ⟨by rfl, ?_⟩) hHeld ?_ ?_
                rotate_left
                · rintro w' s0
                  go_simp
                  with_reducible rfl
                rotate_left
                · simp only [Act.put, List.setIfInBounds_toArray, List.set_cons_zero, List.set_cons_succ, i64_w, i32_w]
                  rfl
                refine one_ (i := 5) (N := some 142) #[true, true, true, true, true, true, false, true, true, false, false, false, false, false, false, false, false] rfl rfl (one_of HT_.out (by kernel_rfl)) (by decide) (fun K hK => ?_)
                refine goes_ Try.func85 (by kernel_rfl) rfl #[.pointer (some ⟨gd, 0, none⟩)] (by rfl) rfl rfl (by (try simp only [List.map_toArray, List.map_cons, List.map_nil]); first | done | rfl) ?_
                refine (bytes_calls YD.out).mono ?_
                rintro e wx ⟨vx, rfl, hrx, hbx⟩
                refine ⟨_, rfl, ?_⟩
                have XD := Aside0.mk (YD.out.below hbx)
                have XR := Aside0.mk (YR.out.below hbx)
                have XB := Aside0.mk (below_step YB.out hbx)
                have HRX := Aside0.mk hrx
                clear hrx hbx YD YR YB
                obtain ⟨vr', arm', hg1, hg2, hg3⟩ := XR.out.at_
                clear hg2 hg3
                refine hK.out _ _ ((blk_cell hg1 0).trans rfl) (fun hHeld => ?_)
                clear hK K
                refine norm_ (a' := ?_) ?_ ?_
                rotate_left
                · show Act.put _ (some 142) _ = _
                  simp only [Act.put, List.setIfInBounds_toArray, List.set_cons_zero, List.set_cons_succ, i64_w, i32_w]
                  rfl
                clear hg1
                obtain ⟨Ax, cx, hvx⟩ := Kd.R_slice HRX.out
                subst hvx
                refine one_ (i := 6) (N := some 143) #[true, true, true, true, true, true, true, true, true, false, false, false, false, false, false, false, false] rfl rfl (one_of HT_.out (by kernel_rfl)) (by decide) (fun K hK => ?_)
                have hcv := own_string (P := Try.prog) Try.underlying44 Try.underlying5 Try.underlying9 (Kd.own_of_R HRX.out)
                refine event_step (by rfl) (v := .string (strOfNums dz.b)) (w1 := wx) ?hr ?_; (case hr => first | (go_simp; done) | (go_simp; rfl))
                clear hcv
                refine hK.out _ _ hHeld (fun hHeld => ?_)
                clear hK K
                refine norm_ (a' := ?_) ?_ ?_
                rotate_left
                · show Act.put _ (some 143) _ = _
                  simp only [Act.put, List.setIfInBounds_toArray, List.set_cons_zero, List.set_cons_succ, i64_w, i32_w]
                  rfl
                refine pure_ (i := 9) (N := some 146) (v := ?_) (a' := ?_) #[true, true, true, true, true, true, true, true, true, true, false, false, false, false, false, false, false] rfl rfl (any_of HT_.out (by kernel_rfl)) (fun _ _ _ h => h) (Or.inl ⟨by rfl, ?_⟩) ?_ ?_
                rotate_left
                · intro w'
                  go_simp
                  with_reducible rfl
                rotate_left
                · simp only [Act.put, List.setIfInBounds_toArray, List.set_cons_zero, List.set_cons_succ, i64_w, i32_w]
                  rfl
                refine pure_ (i := 10) (N := some 147) (v := ?_) (a' := ?_) #[true, true, true, true, true, true, true, true, true, true, true, false, false, false, false, false, false] rfl rfl (any_of HT_.out (by kernel_rfl)) (fun _ _ _ h => h) (Or.inl ⟨by rfl, ?_⟩) ?_ ?_
                rotate_left
                · intro w'
                  go_simp
                  with_reducible rfl
                rotate_left
                · simp only [Act.put, List.setIfInBounds_toArray, List.set_cons_zero, List.set_cons_succ, i64_w, i32_w]
                  rfl
                refine pure_ (i := 11) (N := some 148) (v := ?_) (a' := ?_) #[true, true, true, true, true, true, true, true, true, true, true, true, false, false, false, false, false] rfl rfl (any_of HT_.out (by kernel_rfl)) (fun _ _ _ h => h) (Or.inl ⟨by rfl, ?_⟩) ?_ ?_
                rotate_left
                · intro w'
                  go_simp
                  with_reducible rfl
                rotate_left
                · simp only [Act.put, List.setIfInBounds_toArray, List.set_cons_zero, List.set_cons_succ, i64_w, i32_w]
                  rfl
                refine pure_ (i := 12) (N := some 149) (v := ?_) (a' := ?_) #[true, true, true, true, true, true, true, true, true, true, true, true, true, false, false, false, false] rfl rfl (any_of HT_.out (by kernel_rfl)) (fun _ _ _ h => h) (Or.inl ⟨by rfl, ?_⟩) ?_ ?_
                rotate_left
                · intro w'
                  go_simp
                  with_reducible rfl
                rotate_left
                · simp only [Act.put, List.setIfInBounds_toArray, List.set_cons_zero, List.set_cons_succ, i64_w, i32_w]
                  rfl
                refine pure_ (i := 14) (N := some 151) (v := ?_) (a' := ?_) #[true, true, true, true, true, true, true, true, true, true, true, true, true, false, true, false, false] rfl rfl (any_of HT_.out (by kernel_rfl)) (fun _ _ _ h => h) (Or.inl ⟨by rfl, ?_⟩) ?_ ?_
                rotate_left
                · intro w'
                  go_simp
                  with_reducible rfl
                rotate_left
                · simp only [Act.put, List.setIfInBounds_toArray, List.set_cons_zero, List.set_cons_succ, i64_w, i32_w]
                  rfl
                refine one_ (i := 13) (N := some 150) #[true, true, true, true, true, true, true, true, true, true, true, true, true, true, true, false, false] rfl rfl (one_of HT_.out (by kernel_rfl)) (by decide) (fun K hK => ?_)
                refine goes_ Try.func75 (by kernel_rfl) rfl #[.pointer (some ⟨gd, 0, none⟩)] (by rfl) rfl rfl (by (try simp only [List.map_toArray, List.map_cons, List.map_nil]); first | done | rfl) ?_
                refine (size_calls XD.out).mono ?_
                rintro e wv ⟨rfl, hbv⟩
                refine ⟨_, rfl, ?_⟩
                rw [ZL.out]
                have VD := Aside0.mk (XD.out.below hbv)
                have VR := Aside0.mk (XR.out.below hbv)
                have VB := Aside0.mk (below_step XB.out hbv)
                clear hbv XD XR XB
                obtain ⟨vr', arm', hg1, hg2, hg3⟩ := VR.out.at_
                clear hg2 hg3
                refine hK.out _ _ ((blk_cell hg1 0).trans rfl) (fun hHeld => ?_)
                clear hK K
                refine norm_ (a' := ?_) ?_ ?_
                rotate_left
                · show Act.put _ (some 150) _ = _
                  simp only [Act.put, List.setIfInBounds_toArray, List.set_cons_zero, List.set_cons_succ, i64_w, i32_w]
                  rfl
                clear hg1
                refine pure_ (i := 15) (N := some 152) (v := ?_) (a' := ?_) #[true, true, true, true, true, true, true, true, true, true, true, true, true, true, true, true, false] rfl rfl (any_of HT_.out (by kernel_rfl)) (fun _ _ _ h => h) (Or.inl ⟨by rfl, ?_⟩) ?_ ?_
                rotate_left
                · intro w'
                  go_simp
                  with_reducible rfl
                rotate_left
                · simp only [Act.put, List.setIfInBounds_toArray, List.set_cons_zero, List.set_cons_succ, i64_w, i32_w]
                  rfl
                refine pure_ (i := 16) (N := some 153) (v := ?_) (a' := ?_) #[true, true, true, true, true, true, true, true, true, true, true, true, true, true, true, true, true] rfl rfl (any_of HT_.out (by kernel_rfl)) (fun _ _ _ h => h) (Or.inl ⟨by rfl, ?_⟩) ?_ ?_
                rotate_left
                · intro w'
                  go_simp
                  with_reducible rfl
                rotate_left
                · simp only [Act.put, List.setIfInBounds_toArray, List.set_cons_zero, List.set_cons_succ, i64_w, i32_w]
                  rfl
                refine done_ (done_of HT_.out (by kernel_rfl)) ?_
                go_wp2_with fail
                go_roundg k1
                case measure => omega
                case rel => exact ⟨i + 1, Sd5, Pz, dz, (by have h_ : wrap64 ((i : Int) + 1) = ((i + 1 : Nat) : Int) := (by have := hi2.out; unfold wrap64; omega); rw [h_]), ⟨by have := HK.out; omega⟩, VD, VR, ⟨ZL.out, ZW.out⟩, ZS, VB⟩
            · have e1 : (x.k == 1) = false := beq_eq_false_iff_ne.mpr k1
              clear k1
              by_cases k2 : x.k = 2
              · have HK0 := Aside0.mk k2
                clear k2 e0 e1
                by_cases cl : (1000 : Int) < (x.b.length : Int)
                · have cb3 : decide ((1000 : Int) < (x.b.length : Int)) = true := decide_eq_true cl
                  clear cl
                  go_wp2_with (first | ((with_reducible refine gate_dst (N := 8) rfl ?_); refine box_event ?hg (N := 8) ?hd (cs := #[.int .i64 0, .int .i64 0, .int .i64 0, .slice none 0 0]) (t := 92) ?hr ?_; (case hd => rfl); (case hg => rfl); (case hr => first | (go_simp; done) | (go_simp; rfl)); intro gx hgx w2 hbox hb; have BX := Aside0.mk hbox; have HBB := Aside0.mk hb; have GX := Aside0.mk hgx; clear hbox hb hgx; have hy0 : w2.cell? ⟨gx, 0, none⟩ = some (.int .i64 0) := (blk_cell BX.out 0).trans rfl; have hz0 := blk_frozen BX.out 0; have hy1 : w2.cell? ⟨gx, 1, none⟩ = some (.int .i64 0) := (blk_cell BX.out 1).trans rfl; have hz1 := blk_frozen BX.out 1; have hy2 : w2.cell? ⟨gx, 2, none⟩ = some (.int .i64 0) := (blk_cell BX.out 2).trans rfl; have hz2 := blk_frozen BX.out 2; have hy3 : w2.cell? ⟨gx, 3, none⟩ = some (.slice none 0 0) := (blk_cell BX.out 3).trans rfl; have hz3 := blk_frozen BX.out 3) | ((with_reducible refine gate_store (t := 92) (p := 8) rfl ?_); refine store_event (t := 92) (p := 8) (v := .tmp 54) (w1 := ((((w2.setCell ⟨gx, 0, none⟩ (.int .i64 x.k)).setCell ⟨gx, 1, none⟩ (.int .i64 x.a)).setCell ⟨gx, 2, none⟩ (.int .i64 x.n)).setCell ⟨gx, 3, none⟩ (.slice B x.b.length cb))) ?hg ?ho ?hn ?hr ?_; (case ho => rfl); (case hg => rfl); (case hn => rfl); (case hr => first | (go_simp; done) | (go_simp; rfl)); intro w3 hw3; have hb3 : Below wr.heap.size wr w3 := (by rw [hw3]; exact ((((HBB.out.setCell (by rw [GX.out]; exact Nat.le_refl _) _).setCell (by rw [GX.out]; exact Nat.le_refl _) _).setCell (by rw [GX.out]; exact Nat.le_refl _) _).setCell (by rw [GX.out]; exact Nat.le_refl _) _)); have BX3 : w3.heap[gx]? = some (.cells #[.int .i64 x.k, .int .i64 x.a, .int .i64 x.n, .slice B x.b.length cb] 92 (0, 0)) := (by rw [hw3]; exact (blk_put (blk_put (blk_put (blk_put BX.out 0 _ rfl) 1 _ rfl) 2 _ rfl) 3 _ rfl)); have BX3 := Aside0.mk BX3; have HB3 := Aside0.mk (below_step HB.out hb3); have HD3 := Aside0.mk (HD.out.below hb3); have HR3 := Aside0.mk (HR.out.below hb3); have HX3 := Aside0.mk (Kd.F_below HX.out hb3); clear hw3 hb3 hy0 hz0 hy1 hz1 hy2 hz2 hy3 hz3 BX HBB; have hc0 : w3.cell? ⟨gx, 0, none⟩ = some (.int .i64 (2)) := (blk_cell BX3.out 0).trans (show some (Value.int IntKind.i64 x.k) = some (Value.int IntKind.i64 2) from congrArg (fun z => some (Value.int IntKind.i64 z)) HK0.out); have hc1 : w3.cell? ⟨gx, 1, none⟩ = some (.int .i64 x.a) := (blk_cell BX3.out 1).trans rfl; have hc2 : w3.cell? ⟨gx, 2, none⟩ = some (.int .i64 x.n) := (blk_cell BX3.out 2).trans rfl; have hc3 : w3.cell? ⟨gx, 3, none⟩ = some (.slice B x.b.length cb) := (blk_cell BX3.out 3).trans rfl))
                  refine (heads_calls _).mono ?_
                  rintro e wh ⟨rfl, hb⟩
                  have HBh := Aside0.mk (below_step HB3.out hb)
                  clear hb
                  go_wp2_with fail
                  go_ret
                  exact ⟨rfl, HBh.out⟩
                · have cb3 : decide ((1000 : Int) < (x.b.length : Int)) = false := decide_eq_false cl
                  clear cl
                  go_wp2_with (first | ((with_reducible refine gate_dst (N := 8) rfl ?_); refine box_event ?hg (N := 8) ?hd (cs := #[.int .i64 0, .int .i64 0, .int .i64 0, .slice none 0 0]) (t := 92) ?hr ?_; (case hd => rfl); (case hg => rfl); (case hr => first | (go_simp; done) | (go_simp; rfl)); intro gx hgx w2 hbox hb; have BX := Aside0.mk hbox; have HBB := Aside0.mk hb; have GX := Aside0.mk hgx; clear hbox hb hgx; have hy0 : w2.cell? ⟨gx, 0, none⟩ = some (.int .i64 0) := (blk_cell BX.out 0).trans rfl; have hz0 := blk_frozen BX.out 0; have hy1 : w2.cell? ⟨gx, 1, none⟩ = some (.int .i64 0) := (blk_cell BX.out 1).trans rfl; have hz1 := blk_frozen BX.out 1; have hy2 : w2.cell? ⟨gx, 2, none⟩ = some (.int .i64 0) := (blk_cell BX.out 2).trans rfl; have hz2 := blk_frozen BX.out 2; have hy3 : w2.cell? ⟨gx, 3, none⟩ = some (.slice none 0 0) := (blk_cell BX.out 3).trans rfl; have hz3 := blk_frozen BX.out 3) | ((with_reducible refine gate_store (t := 92) (p := 8) rfl ?_); refine store_event (t := 92) (p := 8) (v := .tmp 54) (w1 := ((((w2.setCell ⟨gx, 0, none⟩ (.int .i64 x.k)).setCell ⟨gx, 1, none⟩ (.int .i64 x.a)).setCell ⟨gx, 2, none⟩ (.int .i64 x.n)).setCell ⟨gx, 3, none⟩ (.slice B x.b.length cb))) ?hg ?ho ?hn ?hr ?_; (case ho => rfl); (case hg => rfl); (case hn => rfl); (case hr => first | (go_simp; done) | (go_simp; rfl)); intro w3 hw3; have hb3 : Below wr.heap.size wr w3 := (by rw [hw3]; exact ((((HBB.out.setCell (by rw [GX.out]; exact Nat.le_refl _) _).setCell (by rw [GX.out]; exact Nat.le_refl _) _).setCell (by rw [GX.out]; exact Nat.le_refl _) _).setCell (by rw [GX.out]; exact Nat.le_refl _) _)); have BX3 : w3.heap[gx]? = some (.cells #[.int .i64 x.k, .int .i64 x.a, .int .i64 x.n, .slice B x.b.length cb] 92 (0, 0)) := (by rw [hw3]; exact (blk_put (blk_put (blk_put (blk_put BX.out 0 _ rfl) 1 _ rfl) 2 _ rfl) 3 _ rfl)); have BX3 := Aside0.mk BX3; have HB3 := Aside0.mk (below_step HB.out hb3); have HD3 := Aside0.mk (HD.out.below hb3); have HR3 := Aside0.mk (HR.out.below hb3); have HX3 := Aside0.mk (Kd.F_below HX.out hb3); clear hw3 hb3 hy0 hz0 hy1 hz1 hy2 hz2 hy3 hz3 BX HBB; have hc0 : w3.cell? ⟨gx, 0, none⟩ = some (.int .i64 (2)) := (blk_cell BX3.out 0).trans (show some (Value.int IntKind.i64 x.k) = some (Value.int IntKind.i64 2) from congrArg (fun z => some (Value.int IntKind.i64 z)) HK0.out); have hc1 : w3.cell? ⟨gx, 1, none⟩ = some (.int .i64 x.a) := (blk_cell BX3.out 1).trans rfl; have hc2 : w3.cell? ⟨gx, 2, none⟩ = some (.int .i64 x.n) := (blk_cell BX3.out 2).trans rfl; have hc3 : w3.cell? ⟨gx, 3, none⟩ = some (.slice B x.b.length cb) := (blk_cell BX3.out 3).trans rfl))
                  have hn1000 : i ≤ 1000 := by have := hi2.out; omega
                  have hw1m : d.ws.length ≤ 1000000 := by have := HL.out.2; have := hi2.out; omega
                  refine (write_calls HD3.out x.a B cb x.b (Kd.F_mono HX3.out (fun k hk h => by have := HS.out k h; omega)) HL1.out hw1m).mono ?_
                  rintro e w5 ⟨rfl, hw5, Sd5, hd5, hs5⟩
                  obtain ⟨dz, hdz⟩ : ∃ dz, dz = (writeD d x.a x.b).1 := ⟨_, rfl⟩
                  obtain ⟨qz, hqz⟩ : ∃ qz, qz = (writeD d x.a x.b).2 := ⟨_, rfl⟩
                  rw [← hdz] at hd5
                  rw [← hqz]
                  have ZD5 := Aside0.mk hd5
                  have HR5 := Aside0.mk (HR3.out.went hw5 (Sd' := Sd5) hs5)
                  have HB5 := Aside0.mk (HB3.out.trans (hw5.to_below HB3.out.size HS.out))
                  have BX5 := Aside0.mk (blk_kept BX3.out hw5.kept (fun h => by have h1 := HG.out gx h; have h2 := GX.out; omega))
                  have HX5 := Aside0.mk (Kd.F_kept HX3.out hw5.kept (fun k hk h => by have := HS.out k h; omega))
                  have ZS := Aside0.mk (show ∀ k, Sd5 k → w.heap.size ≤ k from fun k hk => (hs5 k hk).elim (HS.out k) (fun h => Nat.le_trans HB3.out.size h))
                  have ZL := Aside0.mk (show dz.b.length = n by rw [hdz, writeD_b]; exact HL.out.1)
                  have ZW := Aside0.mk (show dz.ws.length ≤ i + 1 by rw [hdz]; exact Nat.le_trans (writeD_ws d x.a x.b) (Nat.succ_le_succ HL.out.2))
                  clear hw5 hd5 hs5 hc0 hc1 hc2 hc3
                  obtain ⟨vr, arm, hg1, hg2, hg3⟩ := HR5.out.at_
                  obtain ⟨Ar, cr, hvr⟩ := Kd.R_slice hg2
                  subst hvr
                  have hr0 : w5.cell? ⟨gr, 0, none⟩ = some (.string (strOfNums d.b)) := (blk_cell hg1 0).trans rfl
                  have hr1 : w5.cell? ⟨gr, 1, none⟩ = some (.slice Ar (wS d.ws).length cr) := (blk_cell hg1 1).trans rfl
                  have hr2 : w5.cell? ⟨gr, 2, none⟩ = some (.bool d.dead) := (blk_cell hg1 2).trans rfl
                  have hr3 : w5.cell? ⟨gr, 3, none⟩ = some (.int .i64 arm) := (blk_cell hg1 3).trans rfl
                  have HG2 := Aside0.mk hg2
                  have HG3 := Aside0.mk hg3
                  have BRR := Aside0.mk hg1
                  clear hg1 hg2 hg3
                  have hc1 : w5.cell? ⟨gx, 1, none⟩ = some (.int .i64 x.a) := (blk_cell BX5.out 1).trans rfl
                  have hc3 : w5.cell? ⟨gx, 3, none⟩ = some (.slice B x.b.length cb) := (blk_cell BX5.out 3).trans rfl
                  have hcv := Kd.C_string (P := Try.prog) (A := B) (c := cb) Try.underlying44 Try.underlying5 Try.underlying9 (Kd.F_now HX5.out)
                  obtain ⟨arm', hwr, ha⟩ := rwrite_eq HG3.out hn1000 hw1m x.a x.b
                  rw [← hdz, ← hqz] at hwr
                  rw [← hdz] at ha
                  have HWR := Aside0.mk hwr
                  have HA6 := Aside0.mk ha
                  clear hwr ha hdz hqz hn1000 hw1m
                  go_wp2_with fail
                  refine (horariumref48_Write.calls (strOfNums d.b) P (.slice Ar (wS d.ws).length cr) (wS d.ws) d.dead arm x.a (strOfNums x.b) _ _ _ _ _ w w5 HB5.out HG2.out HWR.out).mono ?_
                  rintro e w6 ⟨v6, rfl, hr6, hb6, hk6⟩
                  obtain ⟨A6, c6, hv6⟩ := Kd.R_slice hr6
                  subst hv6
                  have HR6 := Aside0.mk hr6
                  have HB6 := Aside0.mk hb6
                  have HK6 := Aside0.mk hk6
                  clear hr6 hb6 hk6 hcv hc1 hc3 hr0 hr1 hr2 hr3
                  have BR6 := Aside0.mk (blk_kept BRR.out HK6.out (fun hp => (HR5.out.off gr hp).2 rfl))
                  have hy0 : w6.cell? ⟨gr, 0, none⟩ = some (.string (strOfNums d.b)) := (blk_cell BR6.out 0).trans rfl
                  have hz0 := blk_frozen BR6.out 0
                  have hy1 : w6.cell? ⟨gr, 1, none⟩ = some (.slice Ar (wS d.ws).length cr) := (blk_cell BR6.out 1).trans rfl
                  have hz1 := blk_frozen BR6.out 1
                  have hy2 : w6.cell? ⟨gr, 2, none⟩ = some (.bool d.dead) := (blk_cell BR6.out 2).trans rfl
                  have hz2 := blk_frozen BR6.out 2
                  have hy3 : w6.cell? ⟨gr, 3, none⟩ = some (.int .i64 arm) := (blk_cell BR6.out 3).trans rfl
                  have hz3 := blk_frozen BR6.out 3
                  go_wp2_with ((with_reducible refine gate_store (t := 89) (p := 6) rfl ?_); refine store_event (t := 89) (p := 6) (v := .tmp 80) (w1 := ((((w6.setCell ⟨gr, 0, none⟩ (.string (strOfNums dz.b))).setCell ⟨gr, 1, none⟩ (.slice A6 (wS dz.ws).length c6)).setCell ⟨gr, 2, none⟩ (.bool dz.dead)).setCell ⟨gr, 3, none⟩ (.int .i64 arm'))) ?hg ?ho ?hn ?hr ?_; (case ho => rfl); (case hg => rfl); (case hn => rfl); (case hr => first | (go_simp; done) | (go_simp; rfl)); intro w7 hw3; obtain ⟨⟨Pz, hpz⟩, hdz7, _⟩ := ref_put HR5.out ZD5.out HK6.out HR6.out HA6.out hw3; have ZR := Aside0.mk hpz; have ZD := Aside0.mk hdz7; have ZB := Aside0.mk (show Below w.heap.size w w7 by rw [hw3]; exact (((HB6.out.setCell (p := ⟨gr, 0, none⟩) HGE.out _).setCell (p := ⟨gr, 1, none⟩) HGE.out _).setCell (p := ⟨gr, 2, none⟩) HGE.out _).setCell (p := ⟨gr, 3, none⟩) HGE.out _); clear hw3 hpz hdz7 hy0 hy1 hy2 hy3 hz0 hz1 hz2 hz3)
                  obtain ⟨vr, arm, hg1, hg2, hg3⟩ := ZR.out.at_
                  have hy0 : w7.cell? ⟨gr, 0, none⟩ = some (.string (strOfNums dz.b)) := (blk_cell hg1 0).trans rfl
                  clear hg2 hg3
                  go_wp2_with fail
                  refine start_ (n := 17) (S := fun w' => w'.cell? ⟨gr, 0, none⟩ = some (.string (strOfNums dz.b))) (ds := []) #[false, false, false, false, false, false, false, false, false, false, false, false, false, false, false, false, false] (by kernel_rfl) rfl rfl hy0 (fun hHeld => ?_); refine with_tabW dev37.tab dev37.bits (fun HT_ HW_ => ?_)
                  have YD := Aside0.mk (ZD.out.below (below_drew (Below.refl _ _))); have YR := Aside0.mk (ZR.out.below (below_drew (Below.refl _ _))); have YB := Aside0.mk (below_drew1 ZB.out); clear ZD ZR ZB hg1 hy0; generalize w7.drew = wy at YD YR YB hHeld ⊢
                  refine pure_ (i := 0) (N := some 137) (v := ?_) (a' := ?_) #[true, false, false, false, false, false, false, false, false, false, false, false, false, false, false, false, false] rfl rfl (any_of HT_.out (by kernel_rfl)) (fun _ _ _ h => h) (Or.inl ⟨by rfl, ?_⟩) ?_ ?_
                  rotate_left
                  · intro w'
                    go_simp
                    with_reducible rfl
                  rotate_left
                  · simp only [Act.put, List.setIfInBounds_toArray, List.set_cons_zero, List.set_cons_succ, i64_w, i32_w]
                    rfl
                  refine pure_ (i := 1) (N := some 138) (v := ?_) (a' := ?_) #[true, true, false, false, false, false, false, false, false, false, false, false, false, false, false, false, false] rfl rfl (any_of HT_.out (by kernel_rfl)) (fun _ _ _ h => h) (Or.inl ⟨by rfl, ?_⟩) ?_ ?_
                  rotate_left
                  · intro w'
                    go_simp
                    with_reducible rfl
                  rotate_left
                  · simp only [Act.put, List.setIfInBounds_toArray, List.set_cons_zero, List.set_cons_succ, i64_w, i32_w]
                    rfl
                  refine pure_ (i := 2) (N := some 139) (v := ?_) (a' := ?_) #[true, true, true, false, false, false, false, false, false, false, false, false, false, false, false, false, false] rfl rfl (any_of HT_.out (by kernel_rfl)) (fun _ _ _ h => h) (Or.inl ⟨by rfl, ?_⟩) ?_ ?_
                  rotate_left
                  · intro w'
                    go_simp
                    with_reducible rfl
                  rotate_left
                  · simp only [Act.put, List.setIfInBounds_toArray, List.set_cons_zero, List.set_cons_succ, i64_w, i32_w]
                    rfl
                  refine pure_ (i := 3) (N := some 140) (v := ?_) (a' := ?_) #[true, true, true, true, false, false, false, false, false, false, false, false, false, false, false, false, false] rfl rfl (any_of HT_.out (by kernel_rfl)) (fun _ _ _ h => h) (Or.inl ⟨by rfl, ?_⟩) ?_ ?_
                  rotate_left
                  · intro w'
                    go_simp
                    with_reducible rfl
                  rotate_left
                  · simp only [Act.put, List.setIfInBounds_toArray, List.set_cons_zero, List.set_cons_succ, i64_w, i32_w]
                    rfl
                  refine pure_ (i := 4) (N := some 141) (v := ?_) (a' := ?_) #[true, true, true, true, true, false, false, false, false, false, false, false, false, false, false, false, false] rfl rfl (any_of HT_.out (by kernel_rfl)) (fun _ _ _ h => h) (Or.inl ⟨by rfl, ?_⟩) ?_ ?_
                  rotate_left
                  · intro w'
                    go_simp
                    with_reducible rfl
                  rotate_left
                  · simp only [Act.put, List.setIfInBounds_toArray, List.set_cons_zero, List.set_cons_succ, i64_w, i32_w]
                    rfl
                  refine pure_ (i := 7) (N := some 144) (v := ?_) (a' := ?_) #[true, true, true, true, true, false, false, true, false, false, false, false, false, false, false, false, false] rfl rfl (any_of HT_.out (by kernel_rfl)) (fun _ _ _ h => h) (Or.inl ⟨by rfl, ?_⟩) ?_ ?_
                  rotate_left
                  · intro w'
                    go_simp
                    with_reducible rfl
                  rotate_left
                  · simp only [Act.put, List.setIfInBounds_toArray, List.set_cons_zero, List.set_cons_succ, i64_w, i32_w]
                    rfl
                  refine take_ (i := 8) (N := some 145) (v := ?_) (a' := ?_) #[true, true, true, true, true, false, false, true, true, false, false, false, false, false, false, false, false] rfl rfl (take_ofW HT_.out HW_.out (by kernel_rfl)) (fun _ _ _ h => h) (Or.inl ⟨by rfl, ?_⟩) hHeld ?_ ?_
                  rotate_left
                  · rintro w' s0
                    go_simp
                    with_reducible rfl
                  rotate_left
                  · simp only [Act.put, List.setIfInBounds_toArray, List.set_cons_zero, List.set_cons_succ, i64_w, i32_w]
                    rfl
                  refine one_ (i := 5) (N := some 142) #[true, true, true, true, true, true, false, true, true, false, false, false, false, false, false, false, false] rfl rfl (one_of HT_.out (by kernel_rfl)) (by decide) (fun K hK => ?_)
                  refine goes_ Try.func85 (by kernel_rfl) rfl #[.pointer (some ⟨gd, 0, none⟩)] (by rfl) rfl rfl (by (try simp only [List.map_toArray, List.map_cons, List.map_nil]); first | done | rfl) ?_
                  refine (bytes_calls YD.out).mono ?_
                  rintro e wx ⟨vx, rfl, hrx, hbx⟩
                  refine ⟨_, rfl, ?_⟩
                  have XD := Aside0.mk (YD.out.below hbx)
                  have XR := Aside0.mk (YR.out.below hbx)
                  have XB := Aside0.mk (below_step YB.out hbx)
                  have HRX := Aside0.mk hrx
                  clear hrx hbx YD YR YB
                  obtain ⟨vr', arm', hg1, hg2, hg3⟩ := XR.out.at_
                  clear hg2 hg3
                  refine hK.out _ _ ((blk_cell hg1 0).trans rfl) (fun hHeld => ?_)
                  clear hK K
                  refine norm_ (a' := ?_) ?_ ?_
                  rotate_left
                  · show Act.put _ (some 142) _ = _
                    simp only [Act.put, List.setIfInBounds_toArray, List.set_cons_zero, List.set_cons_succ, i64_w, i32_w]
                    rfl
                  clear hg1
                  obtain ⟨Ax, cx, hvx⟩ := Kd.R_slice HRX.out
                  subst hvx
                  refine one_ (i := 6) (N := some 143) #[true, true, true, true, true, true, true, true, true, false, false, false, false, false, false, false, false] rfl rfl (one_of HT_.out (by kernel_rfl)) (by decide) (fun K hK => ?_)
                  have hcv := own_string (P := Try.prog) Try.underlying44 Try.underlying5 Try.underlying9 (Kd.own_of_R HRX.out)
                  refine event_step (by rfl) (v := .string (strOfNums dz.b)) (w1 := wx) ?hr ?_; (case hr => first | (go_simp; done) | (go_simp; rfl))
                  clear hcv
                  refine hK.out _ _ hHeld (fun hHeld => ?_)
                  clear hK K
                  refine norm_ (a' := ?_) ?_ ?_
                  rotate_left
                  · show Act.put _ (some 143) _ = _
                    simp only [Act.put, List.setIfInBounds_toArray, List.set_cons_zero, List.set_cons_succ, i64_w, i32_w]
                    rfl
                  refine pure_ (i := 9) (N := some 146) (v := ?_) (a' := ?_) #[true, true, true, true, true, true, true, true, true, true, false, false, false, false, false, false, false] rfl rfl (any_of HT_.out (by kernel_rfl)) (fun _ _ _ h => h) (Or.inl ⟨by rfl, ?_⟩) ?_ ?_
                  rotate_left
                  · intro w'
                    go_simp
                    with_reducible rfl
                  rotate_left
                  · simp only [Act.put, List.setIfInBounds_toArray, List.set_cons_zero, List.set_cons_succ, i64_w, i32_w]
                    rfl
                  refine pure_ (i := 10) (N := some 147) (v := ?_) (a' := ?_) #[true, true, true, true, true, true, true, true, true, true, true, false, false, false, false, false, false] rfl rfl (any_of HT_.out (by kernel_rfl)) (fun _ _ _ h => h) (Or.inl ⟨by rfl, ?_⟩) ?_ ?_
                  rotate_left
                  · intro w'
                    go_simp
                    with_reducible rfl
                  rotate_left
                  · simp only [Act.put, List.setIfInBounds_toArray, List.set_cons_zero, List.set_cons_succ, i64_w, i32_w]
                    rfl
                  refine pure_ (i := 11) (N := some 148) (v := ?_) (a' := ?_) #[true, true, true, true, true, true, true, true, true, true, true, true, false, false, false, false, false] rfl rfl (any_of HT_.out (by kernel_rfl)) (fun _ _ _ h => h) (Or.inl ⟨by rfl, ?_⟩) ?_ ?_
                  rotate_left
                  · intro w'
                    go_simp
                    with_reducible rfl
                  rotate_left
                  · simp only [Act.put, List.setIfInBounds_toArray, List.set_cons_zero, List.set_cons_succ, i64_w, i32_w]
                    rfl
                  refine pure_ (i := 12) (N := some 149) (v := ?_) (a' := ?_) #[true, true, true, true, true, true, true, true, true, true, true, true, true, false, false, false, false] rfl rfl (any_of HT_.out (by kernel_rfl)) (fun _ _ _ h => h) (Or.inl ⟨by rfl, ?_⟩) ?_ ?_
                  rotate_left
                  · intro w'
                    go_simp
                    with_reducible rfl
                  rotate_left
                  · simp only [Act.put, List.setIfInBounds_toArray, List.set_cons_zero, List.set_cons_succ, i64_w, i32_w]
                    rfl
                  refine pure_ (i := 14) (N := some 151) (v := ?_) (a' := ?_) #[true, true, true, true, true, true, true, true, true, true, true, true, true, false, true, false, false] rfl rfl (any_of HT_.out (by kernel_rfl)) (fun _ _ _ h => h) (Or.inl ⟨by rfl, ?_⟩) ?_ ?_
                  rotate_left
                  · intro w'
                    go_simp
                    with_reducible rfl
                  rotate_left
                  · simp only [Act.put, List.setIfInBounds_toArray, List.set_cons_zero, List.set_cons_succ, i64_w, i32_w]
                    rfl
                  refine one_ (i := 13) (N := some 150) #[true, true, true, true, true, true, true, true, true, true, true, true, true, true, true, false, false] rfl rfl (one_of HT_.out (by kernel_rfl)) (by decide) (fun K hK => ?_)
                  refine goes_ Try.func75 (by kernel_rfl) rfl #[.pointer (some ⟨gd, 0, none⟩)] (by rfl) rfl rfl (by (try simp only [List.map_toArray, List.map_cons, List.map_nil]); first | done | rfl) ?_
                  refine (size_calls XD.out).mono ?_
                  rintro e wv ⟨rfl, hbv⟩
                  refine ⟨_, rfl, ?_⟩
                  rw [ZL.out]
                  have VD := Aside0.mk (XD.out.below hbv)
                  have VR := Aside0.mk (XR.out.below hbv)
                  have VB := Aside0.mk (below_step XB.out hbv)
                  clear hbv XD XR XB
                  obtain ⟨vr', arm', hg1, hg2, hg3⟩ := VR.out.at_
                  clear hg2 hg3
                  refine hK.out _ _ ((blk_cell hg1 0).trans rfl) (fun hHeld => ?_)
                  clear hK K
                  refine norm_ (a' := ?_) ?_ ?_
                  rotate_left
                  · show Act.put _ (some 150) _ = _
                    simp only [Act.put, List.setIfInBounds_toArray, List.set_cons_zero, List.set_cons_succ, i64_w, i32_w]
                    rfl
                  clear hg1
                  refine pure_ (i := 15) (N := some 152) (v := ?_) (a' := ?_) #[true, true, true, true, true, true, true, true, true, true, true, true, true, true, true, true, false] rfl rfl (any_of HT_.out (by kernel_rfl)) (fun _ _ _ h => h) (Or.inl ⟨by rfl, ?_⟩) ?_ ?_
                  rotate_left
                  · intro w'
                    go_simp
                    with_reducible rfl
                  rotate_left
                  · simp only [Act.put, List.setIfInBounds_toArray, List.set_cons_zero, List.set_cons_succ, i64_w, i32_w]
                    rfl
                  refine pure_ (i := 16) (N := some 153) (v := ?_) (a' := ?_) #[true, true, true, true, true, true, true, true, true, true, true, true, true, true, true, true, true] rfl rfl (any_of HT_.out (by kernel_rfl)) (fun _ _ _ h => h) (Or.inl ⟨by rfl, ?_⟩) ?_ ?_
                  rotate_left
                  · intro w'
                    go_simp
                    with_reducible rfl
                  rotate_left
                  · simp only [Act.put, List.setIfInBounds_toArray, List.set_cons_zero, List.set_cons_succ, i64_w, i32_w]
                    rfl
                  refine done_ (done_of HT_.out (by kernel_rfl)) ?_
                  go_wp2_with fail
                  go_roundg k1
                  case measure => omega
                  case rel => exact ⟨i + 1, Sd5, Pz, dz, (by have h_ : wrap64 ((i : Int) + 1) = ((i + 1 : Nat) : Int) := (by have := hi2.out; unfold wrap64; omega); rw [h_]), ⟨by have := HK.out; omega⟩, VD, VR, ⟨ZL.out, ZW.out⟩, ZS, VB⟩
              · have e2 : (x.k == 2) = false := beq_eq_false_iff_ne.mpr k2
                clear k2
                by_cases k3 : x.k = 3
                · have HK0 := Aside0.mk k3
                  clear k3 e0 e1 e2
                  go_wp2_with (first | ((with_reducible refine gate_dst (N := 8) rfl ?_); refine box_event ?hg (N := 8) ?hd (cs := #[.int .i64 0, .int .i64 0, .int .i64 0, .slice none 0 0]) (t := 92) ?hr ?_; (case hd => rfl); (case hg => rfl); (case hr => first | (go_simp; done) | (go_simp; rfl)); intro gx hgx w2 hbox hb; have BX := Aside0.mk hbox; have HBB := Aside0.mk hb; have GX := Aside0.mk hgx; clear hbox hb hgx; have hy0 : w2.cell? ⟨gx, 0, none⟩ = some (.int .i64 0) := (blk_cell BX.out 0).trans rfl; have hz0 := blk_frozen BX.out 0; have hy1 : w2.cell? ⟨gx, 1, none⟩ = some (.int .i64 0) := (blk_cell BX.out 1).trans rfl; have hz1 := blk_frozen BX.out 1; have hy2 : w2.cell? ⟨gx, 2, none⟩ = some (.int .i64 0) := (blk_cell BX.out 2).trans rfl; have hz2 := blk_frozen BX.out 2; have hy3 : w2.cell? ⟨gx, 3, none⟩ = some (.slice none 0 0) := (blk_cell BX.out 3).trans rfl; have hz3 := blk_frozen BX.out 3) | ((with_reducible refine gate_store (t := 92) (p := 8) rfl ?_); refine store_event (t := 92) (p := 8) (v := .tmp 54) (w1 := ((((w2.setCell ⟨gx, 0, none⟩ (.int .i64 x.k)).setCell ⟨gx, 1, none⟩ (.int .i64 x.a)).setCell ⟨gx, 2, none⟩ (.int .i64 x.n)).setCell ⟨gx, 3, none⟩ (.slice B x.b.length cb))) ?hg ?ho ?hn ?hr ?_; (case ho => rfl); (case hg => rfl); (case hn => rfl); (case hr => first | (go_simp; done) | (go_simp; rfl)); intro w3 hw3; have hb3 : Below wr.heap.size wr w3 := (by rw [hw3]; exact ((((HBB.out.setCell (by rw [GX.out]; exact Nat.le_refl _) _).setCell (by rw [GX.out]; exact Nat.le_refl _) _).setCell (by rw [GX.out]; exact Nat.le_refl _) _).setCell (by rw [GX.out]; exact Nat.le_refl _) _)); have BX3 : w3.heap[gx]? = some (.cells #[.int .i64 x.k, .int .i64 x.a, .int .i64 x.n, .slice B x.b.length cb] 92 (0, 0)) := (by rw [hw3]; exact (blk_put (blk_put (blk_put (blk_put BX.out 0 _ rfl) 1 _ rfl) 2 _ rfl) 3 _ rfl)); have BX3 := Aside0.mk BX3; have HB3 := Aside0.mk (below_step HB.out hb3); have HD3 := Aside0.mk (HD.out.below hb3); have HR3 := Aside0.mk (HR.out.below hb3); have HX3 := Aside0.mk (Kd.F_below HX.out hb3); clear hw3 hb3 hy0 hz0 hy1 hz1 hy2 hz2 hy3 hz3 BX HBB; have hc0 : w3.cell? ⟨gx, 0, none⟩ = some (.int .i64 (3)) := (blk_cell BX3.out 0).trans (show some (Value.int IntKind.i64 x.k) = some (Value.int IntKind.i64 3) from congrArg (fun z => some (Value.int IntKind.i64 z)) HK0.out); have hc1 : w3.cell? ⟨gx, 1, none⟩ = some (.int .i64 x.a) := (blk_cell BX3.out 1).trans rfl; have hc2 : w3.cell? ⟨gx, 2, none⟩ = some (.int .i64 x.n) := (blk_cell BX3.out 2).trans rfl; have hc3 : w3.cell? ⟨gx, 3, none⟩ = some (.slice B x.b.length cb) := (blk_cell BX3.out 3).trans rfl))
                  have hn1000 : i ≤ 1000 := by have := hi2.out; omega
                  have hw1m : d.ws.length ≤ 1000000 := by have := HL.out.2; have := hi2.out; omega
                  refine (read_calls HD3.out x.a x.n).mono ?_
                  rintro e w5 ⟨v5, rfl, hr5, hb5⟩
                  obtain ⟨rb, hrb⟩ : ∃ rb, rb = (readD d x.a x.n).1 := ⟨_, rfl⟩
                  obtain ⟨qz, hqz⟩ : ∃ qz, qz = (readD d x.a x.n).2 := ⟨_, rfl⟩
                  rw [← hrb] at hr5
                  rw [← hqz]
                  obtain ⟨A5, c5, hv5⟩ := Kd.R_slice hr5
                  subst hv5
                  have HRB := Aside0.mk hr5
                  have ZD5 := Aside0.mk (HD3.out.below hb5)
                  have HR5 := Aside0.mk (HR3.out.below hb5)
                  have HB5 := Aside0.mk (below_step HB3.out hb5)
                  have BX5 := Aside0.mk (blk_below BX3.out hb5)
                  clear hr5 hb5 hc0 hc1 hc2 hc3
                  obtain ⟨vr, arm, hg1, hg2, hg3⟩ := HR5.out.at_
                  obtain ⟨Ar, cr, hvr⟩ := Kd.R_slice hg2
                  subst hvr
                  have hr0 : w5.cell? ⟨gr, 0, none⟩ = some (.string (strOfNums d.b)) := (blk_cell hg1 0).trans rfl
                  have hr1 : w5.cell? ⟨gr, 1, none⟩ = some (.slice Ar (wS d.ws).length cr) := (blk_cell hg1 1).trans rfl
                  have hr2 : w5.cell? ⟨gr, 2, none⟩ = some (.bool d.dead) := (blk_cell hg1 2).trans rfl
                  have hr3 : w5.cell? ⟨gr, 3, none⟩ = some (.int .i64 arm) := (blk_cell hg1 3).trans rfl
                  have HG2 := Aside0.mk hg2
                  have HG3 := Aside0.mk hg3
                  have BRR := Aside0.mk hg1
                  clear hg1 hg2 hg3
                  have hc1 : w5.cell? ⟨gx, 1, none⟩ = some (.int .i64 x.a) := (blk_cell BX5.out 1).trans rfl
                  have hc2 : w5.cell? ⟨gx, 2, none⟩ = some (.int .i64 x.n) := (blk_cell BX5.out 2).trans rfl
                  obtain ⟨kr, hkr⟩ : ∃ kr, 1000001 ≤ kr := ⟨_, Nat.le_refl _⟩
                  have HRD := Aside0.mk (show horariumref48_Read.f kr (strOfNums d.b) (wS d.ws) d.dead arm x.a x.n = some (strOfNums rb, qz) by rw [hrb, hqz]; exact rdread_eq HD3.out.small hw1m HD3.out.fits kr hkr arm x.a x.n)
                  clear hrb hqz hn1000 hw1m hkr
                  go_wp2_with fail
                  refine (horariumref48_Read.calls kr (strOfNums d.b) Ar cr (wS d.ws) d.dead arm x.a x.n _ _ w5 (Kd.R_reads' HG2.out).2.2 (Kd.R_reads' HG2.out).2.1 HRD.out).mono ?_
                  rintro e w6 ⟨rfl, hb6⟩
                  have ZD := Aside0.mk (ZD5.out.below hb6)
                  have ZR := Aside0.mk ((HR5.out.below hb6).more)
                  have ZB := Aside0.mk (below_step HB5.out hb6)
                  have ZL := Aside0.mk HL.out.1
                  have ZW := Aside0.mk (Nat.le_succ_of_le HL.out.2)
                  have hcv := own_string (P := Try.prog) Try.underlying44 Try.underlying5 Try.underlying9 (Kd.own_of_R (Kd.R_below HRB.out hb6))
                  clear hb6 hc1 hc2 hr0 hr1 hr2 hr3
                  obtain ⟨vr, arm, hg1, hg2, hg3⟩ := ZR.out.at_
                  have hy0 : w6.cell? ⟨gr, 0, none⟩ = some (.string (strOfNums d.b)) := (blk_cell hg1 0).trans rfl
                  clear hg2 hg3
                  go_wp2_with fail
                  refine start_ (n := 17) (S := fun w' => w'.cell? ⟨gr, 0, none⟩ = some (.string (strOfNums d.b))) (ds := []) #[false, false, false, false, false, false, false, false, false, false, false, false, false, false, false, false, false] (by kernel_rfl) rfl rfl hy0 (fun hHeld => ?_); refine with_tabW dev37.tab dev37.bits (fun HT_ HW_ => ?_)
                  have YD := Aside0.mk (ZD.out.below (below_drew (Below.refl _ _))); have YR := Aside0.mk (ZR.out.below (below_drew (Below.refl _ _))); have YB := Aside0.mk (below_drew1 ZB.out); clear ZD ZR ZB hg1 hy0; generalize w6.drew = wy at YD YR YB hHeld ⊢
                  refine pure_ (i := 0) (N := some 137) (v := ?_) (a' := ?_) #[true, false, false, false, false, false, false, false, false, false, false, false, false, false, false, false, false] rfl rfl (any_of HT_.out (by kernel_rfl)) (fun _ _ _ h => h) (Or.inl ⟨by rfl, ?_⟩) ?_ ?_
                  rotate_left
                  · intro w'
                    go_simp
                    with_reducible rfl
                  rotate_left
                  · simp only [Act.put, List.setIfInBounds_toArray, List.set_cons_zero, List.set_cons_succ, i64_w, i32_w]
                    rfl
                  refine pure_ (i := 1) (N := some 138) (v := ?_) (a' := ?_) #[true, true, false, false, false, false, false, false, false, false, false, false, false, false, false, false, false] rfl rfl (any_of HT_.out (by kernel_rfl)) (fun _ _ _ h => h) (Or.inl ⟨by rfl, ?_⟩) ?_ ?_
                  rotate_left
                  · intro w'
                    go_simp
                    with_reducible rfl
                  rotate_left
                  · simp only [Act.put, List.setIfInBounds_toArray, List.set_cons_zero, List.set_cons_succ, i64_w, i32_w]
                    rfl
                  refine pure_ (i := 2) (N := some 139) (v := ?_) (a' := ?_) #[true, true, true, false, false, false, false, false, false, false, false, false, false, false, false, false, false] rfl rfl (any_of HT_.out (by kernel_rfl)) (fun _ _ _ h => h) (Or.inl ⟨by rfl, ?_⟩) ?_ ?_
                  rotate_left
                  · intro w'
                    go_simp
                    with_reducible rfl
                  rotate_left
                  · simp only [Act.put, List.setIfInBounds_toArray, List.set_cons_zero, List.set_cons_succ, i64_w, i32_w]
                    rfl
                  refine pure_ (i := 3) (N := some 140) (v := ?_) (a' := ?_) #[true, true, true, true, false, false, false, false, false, false, false, false, false, false, false, false, false] rfl rfl (any_of HT_.out (by kernel_rfl)) (fun _ _ _ h => h) (Or.inl ⟨by rfl, ?_⟩) ?_ ?_
                  rotate_left
                  · intro w'
                    go_simp
                    with_reducible rfl
                  rotate_left
                  · simp only [Act.put, List.setIfInBounds_toArray, List.set_cons_zero, List.set_cons_succ, i64_w, i32_w]
                    rfl
                  refine pure_ (i := 4) (N := some 141) (v := ?_) (a' := ?_) #[true, true, true, true, true, false, false, false, false, false, false, false, false, false, false, false, false] rfl rfl (any_of HT_.out (by kernel_rfl)) (fun _ _ _ h => h) (Or.inl ⟨by rfl, ?_⟩) ?_ ?_
                  rotate_left
                  · intro w'
                    go_simp
                    with_reducible rfl
                  rotate_left
                  · simp only [Act.put, List.setIfInBounds_toArray, List.set_cons_zero, List.set_cons_succ, i64_w, i32_w]
                    rfl
                  refine pure_ (i := 7) (N := some 144) (v := ?_) (a' := ?_) #[true, true, true, true, true, false, false, true, false, false, false, false, false, false, false, false, false] rfl rfl (any_of HT_.out (by kernel_rfl)) (fun _ _ _ h => h) (Or.inl ⟨by rfl, ?_⟩) ?_ ?_
                  rotate_left
                  · intro w'
                    go_simp
                    with_reducible rfl
                  rotate_left
                  · simp only [Act.put, List.setIfInBounds_toArray, List.set_cons_zero, List.set_cons_succ, i64_w, i32_w]
                    rfl
                  refine take_ (i := 8) (N := some 145) (v := ?_) (a' := ?_) #[true, true, true, true, true, false, false, true, true, false, false, false, false, false, false, false, false] rfl rfl (take_ofW HT_.out HW_.out (by kernel_rfl)) (fun _ _ _ h => h) (Or.inl ⟨by rfl, ?_⟩) hHeld ?_ ?_
                  rotate_left
                  · rintro w' s0
                    go_simp
                    with_reducible rfl
                  rotate_left
                  · simp only [Act.put, List.setIfInBounds_toArray, List.set_cons_zero, List.set_cons_succ, i64_w, i32_w]
                    rfl
                  refine one_ (i := 5) (N := some 142) #[true, true, true, true, true, true, false, true, true, false, false, false, false, false, false, false, false] rfl rfl (one_of HT_.out (by kernel_rfl)) (by decide) (fun K hK => ?_)
                  refine goes_ Try.func85 (by kernel_rfl) rfl #[.pointer (some ⟨gd, 0, none⟩)] (by rfl) rfl rfl (by (try simp only [List.map_toArray, List.map_cons, List.map_nil]); first | done | rfl) ?_
                  refine (bytes_calls YD.out).mono ?_
                  rintro e wx ⟨vx, rfl, hrx, hbx⟩
                  refine ⟨_, rfl, ?_⟩
                  have XD := Aside0.mk (YD.out.below hbx)
                  have XR := Aside0.mk (YR.out.below hbx)
                  have XB := Aside0.mk (below_step YB.out hbx)
                  have HRX := Aside0.mk hrx
                  clear hrx hbx YD YR YB
                  obtain ⟨vr', arm', hg1, hg2, hg3⟩ := XR.out.at_
                  clear hg2 hg3
                  refine hK.out _ _ ((blk_cell hg1 0).trans rfl) (fun hHeld => ?_)
                  clear hK K
                  refine norm_ (a' := ?_) ?_ ?_
                  rotate_left
                  · show Act.put _ (some 142) _ = _
                    simp only [Act.put, List.setIfInBounds_toArray, List.set_cons_zero, List.set_cons_succ, i64_w, i32_w]
                    rfl
                  clear hg1
                  obtain ⟨Ax, cx, hvx⟩ := Kd.R_slice HRX.out
                  subst hvx
                  refine one_ (i := 6) (N := some 143) #[true, true, true, true, true, true, true, true, true, false, false, false, false, false, false, false, false] rfl rfl (one_of HT_.out (by kernel_rfl)) (by decide) (fun K hK => ?_)
                  have hcv := own_string (P := Try.prog) Try.underlying44 Try.underlying5 Try.underlying9 (Kd.own_of_R HRX.out)
                  refine event_step (by rfl) (v := .string (strOfNums d.b)) (w1 := wx) ?hr ?_; (case hr => first | (go_simp; done) | (go_simp; rfl))
                  clear hcv
                  refine hK.out _ _ hHeld (fun hHeld => ?_)
                  clear hK K
                  refine norm_ (a' := ?_) ?_ ?_
                  rotate_left
                  · show Act.put _ (some 143) _ = _
                    simp only [Act.put, List.setIfInBounds_toArray, List.set_cons_zero, List.set_cons_succ, i64_w, i32_w]
                    rfl
                  refine pure_ (i := 9) (N := some 146) (v := ?_) (a' := ?_) #[true, true, true, true, true, true, true, true, true, true, false, false, false, false, false, false, false] rfl rfl (any_of HT_.out (by kernel_rfl)) (fun _ _ _ h => h) (Or.inl ⟨by rfl, ?_⟩) ?_ ?_
                  rotate_left
                  · intro w'
                    go_simp
                    with_reducible rfl
                  rotate_left
                  · simp only [Act.put, List.setIfInBounds_toArray, List.set_cons_zero, List.set_cons_succ, i64_w, i32_w]
                    rfl
                  refine pure_ (i := 10) (N := some 147) (v := ?_) (a' := ?_) #[true, true, true, true, true, true, true, true, true, true, true, false, false, false, false, false, false] rfl rfl (any_of HT_.out (by kernel_rfl)) (fun _ _ _ h => h) (Or.inl ⟨by rfl, ?_⟩) ?_ ?_
                  rotate_left
                  · intro w'
                    go_simp
                    with_reducible rfl
                  rotate_left
                  · simp only [Act.put, List.setIfInBounds_toArray, List.set_cons_zero, List.set_cons_succ, i64_w, i32_w]
                    rfl
                  refine pure_ (i := 11) (N := some 148) (v := ?_) (a' := ?_) #[true, true, true, true, true, true, true, true, true, true, true, true, false, false, false, false, false] rfl rfl (any_of HT_.out (by kernel_rfl)) (fun _ _ _ h => h) (Or.inl ⟨by rfl, ?_⟩) ?_ ?_
                  rotate_left
                  · intro w'
                    go_simp
                    with_reducible rfl
                  rotate_left
                  · simp only [Act.put, List.setIfInBounds_toArray, List.set_cons_zero, List.set_cons_succ, i64_w, i32_w]
                    rfl
                  refine pure_ (i := 12) (N := some 149) (v := ?_) (a' := ?_) #[true, true, true, true, true, true, true, true, true, true, true, true, true, false, false, false, false] rfl rfl (any_of HT_.out (by kernel_rfl)) (fun _ _ _ h => h) (Or.inl ⟨by rfl, ?_⟩) ?_ ?_
                  rotate_left
                  · intro w'
                    go_simp
                    with_reducible rfl
                  rotate_left
                  · simp only [Act.put, List.setIfInBounds_toArray, List.set_cons_zero, List.set_cons_succ, i64_w, i32_w]
                    rfl
                  refine pure_ (i := 14) (N := some 151) (v := ?_) (a' := ?_) #[true, true, true, true, true, true, true, true, true, true, true, true, true, false, true, false, false] rfl rfl (any_of HT_.out (by kernel_rfl)) (fun _ _ _ h => h) (Or.inl ⟨by rfl, ?_⟩) ?_ ?_
                  rotate_left
                  · intro w'
                    go_simp
                    with_reducible rfl
                  rotate_left
                  · simp only [Act.put, List.setIfInBounds_toArray, List.set_cons_zero, List.set_cons_succ, i64_w, i32_w]
                    rfl
                  refine one_ (i := 13) (N := some 150) #[true, true, true, true, true, true, true, true, true, true, true, true, true, true, true, false, false] rfl rfl (one_of HT_.out (by kernel_rfl)) (by decide) (fun K hK => ?_)
                  refine goes_ Try.func75 (by kernel_rfl) rfl #[.pointer (some ⟨gd, 0, none⟩)] (by rfl) rfl rfl (by (try simp only [List.map_toArray, List.map_cons, List.map_nil]); first | done | rfl) ?_
                  refine (size_calls XD.out).mono ?_
                  rintro e wv ⟨rfl, hbv⟩
                  refine ⟨_, rfl, ?_⟩
                  rw [ZL.out]
                  have VD := Aside0.mk (XD.out.below hbv)
                  have VR := Aside0.mk (XR.out.below hbv)
                  have VB := Aside0.mk (below_step XB.out hbv)
                  clear hbv XD XR XB
                  obtain ⟨vr', arm', hg1, hg2, hg3⟩ := VR.out.at_
                  clear hg2 hg3
                  refine hK.out _ _ ((blk_cell hg1 0).trans rfl) (fun hHeld => ?_)
                  clear hK K
                  refine norm_ (a' := ?_) ?_ ?_
                  rotate_left
                  · show Act.put _ (some 150) _ = _
                    simp only [Act.put, List.setIfInBounds_toArray, List.set_cons_zero, List.set_cons_succ, i64_w, i32_w]
                    rfl
                  clear hg1
                  refine pure_ (i := 15) (N := some 152) (v := ?_) (a' := ?_) #[true, true, true, true, true, true, true, true, true, true, true, true, true, true, true, true, false] rfl rfl (any_of HT_.out (by kernel_rfl)) (fun _ _ _ h => h) (Or.inl ⟨by rfl, ?_⟩) ?_ ?_
                  rotate_left
                  · intro w'
                    go_simp
                    with_reducible rfl
                  rotate_left
                  · simp only [Act.put, List.setIfInBounds_toArray, List.set_cons_zero, List.set_cons_succ, i64_w, i32_w]
                    rfl
                  refine pure_ (i := 16) (N := some 153) (v := ?_) (a' := ?_) #[true, true, true, true, true, true, true, true, true, true, true, true, true, true, true, true, true] rfl rfl (any_of HT_.out (by kernel_rfl)) (fun _ _ _ h => h) (Or.inl ⟨by rfl, ?_⟩) ?_ ?_
                  rotate_left
                  · intro w'
                    go_simp
                    with_reducible rfl
                  rotate_left
                  · simp only [Act.put, List.setIfInBounds_toArray, List.set_cons_zero, List.set_cons_succ, i64_w, i32_w]
                    rfl
                  refine done_ (done_of HT_.out (by kernel_rfl)) ?_
                  go_wp2_with fail
                  go_roundg k1
                  case measure => omega
                  case rel => exact ⟨i + 1, Sd, P, d, (by have h_ : wrap64 ((i : Int) + 1) = ((i + 1 : Nat) : Int) := (by have := hi2.out; unfold wrap64; omega); rw [h_]), ⟨by have := HK.out; omega⟩, VD, VR, ⟨ZL.out, ZW.out⟩, HS, VB⟩
                · have e3 : (x.k == 3) = false := beq_eq_false_iff_ne.mpr k3
                  clear k3
                  by_cases k4 : x.k = 4
                  · have HK0 := Aside0.mk k4
                    clear k4 e0 e1 e2 e3
                    go_wp2_with (first | ((with_reducible refine gate_dst (N := 8) rfl ?_); refine box_event ?hg (N := 8) ?hd (cs := #[.int .i64 0, .int .i64 0, .int .i64 0, .slice none 0 0]) (t := 92) ?hr ?_; (case hd => rfl); (case hg => rfl); (case hr => first | (go_simp; done) | (go_simp; rfl)); intro gx hgx w2 hbox hb; have BX := Aside0.mk hbox; have HBB := Aside0.mk hb; have GX := Aside0.mk hgx; clear hbox hb hgx; have hy0 : w2.cell? ⟨gx, 0, none⟩ = some (.int .i64 0) := (blk_cell BX.out 0).trans rfl; have hz0 := blk_frozen BX.out 0; have hy1 : w2.cell? ⟨gx, 1, none⟩ = some (.int .i64 0) := (blk_cell BX.out 1).trans rfl; have hz1 := blk_frozen BX.out 1; have hy2 : w2.cell? ⟨gx, 2, none⟩ = some (.int .i64 0) := (blk_cell BX.out 2).trans rfl; have hz2 := blk_frozen BX.out 2; have hy3 : w2.cell? ⟨gx, 3, none⟩ = some (.slice none 0 0) := (blk_cell BX.out 3).trans rfl; have hz3 := blk_frozen BX.out 3) | ((with_reducible refine gate_store (t := 92) (p := 8) rfl ?_); refine store_event (t := 92) (p := 8) (v := .tmp 54) (w1 := ((((w2.setCell ⟨gx, 0, none⟩ (.int .i64 x.k)).setCell ⟨gx, 1, none⟩ (.int .i64 x.a)).setCell ⟨gx, 2, none⟩ (.int .i64 x.n)).setCell ⟨gx, 3, none⟩ (.slice B x.b.length cb))) ?hg ?ho ?hn ?hr ?_; (case ho => rfl); (case hg => rfl); (case hn => rfl); (case hr => first | (go_simp; done) | (go_simp; rfl)); intro w3 hw3; have hb3 : Below wr.heap.size wr w3 := (by rw [hw3]; exact ((((HBB.out.setCell (by rw [GX.out]; exact Nat.le_refl _) _).setCell (by rw [GX.out]; exact Nat.le_refl _) _).setCell (by rw [GX.out]; exact Nat.le_refl _) _).setCell (by rw [GX.out]; exact Nat.le_refl _) _)); have BX3 : w3.heap[gx]? = some (.cells #[.int .i64 x.k, .int .i64 x.a, .int .i64 x.n, .slice B x.b.length cb] 92 (0, 0)) := (by rw [hw3]; exact (blk_put (blk_put (blk_put (blk_put BX.out 0 _ rfl) 1 _ rfl) 2 _ rfl) 3 _ rfl)); have BX3 := Aside0.mk BX3; have HB3 := Aside0.mk (below_step HB.out hb3); have HD3 := Aside0.mk (HD.out.below hb3); have HR3 := Aside0.mk (HR.out.below hb3); have HX3 := Aside0.mk (Kd.F_below HX.out hb3); clear hw3 hb3 hy0 hz0 hy1 hz1 hy2 hz2 hy3 hz3 BX HBB; have hc0 : w3.cell? ⟨gx, 0, none⟩ = some (.int .i64 (4)) := (blk_cell BX3.out 0).trans (show some (Value.int IntKind.i64 x.k) = some (Value.int IntKind.i64 4) from congrArg (fun z => some (Value.int IntKind.i64 z)) HK0.out); have hc1 : w3.cell? ⟨gx, 1, none⟩ = some (.int .i64 x.a) := (blk_cell BX3.out 1).trans rfl; have hc2 : w3.cell? ⟨gx, 2, none⟩ = some (.int .i64 x.n) := (blk_cell BX3.out 2).trans rfl; have hc3 : w3.cell? ⟨gx, 3, none⟩ = some (.slice B x.b.length cb) := (blk_cell BX3.out 3).trans rfl))
                    have hn1000 : i ≤ 1000 := by have := hi2.out; omega
                    have hw1m : d.ws.length ≤ 1000000 := by have := HL.out.2; have := hi2.out; omega
                    refine (flush_calls HD3.out).mono ?_
                    rintro e w5 ⟨rfl, hd5, hw5⟩
                    obtain ⟨dz, hdz⟩ : ∃ dz, dz = (flushD d).1 := ⟨_, rfl⟩
                    obtain ⟨qz, hqz⟩ : ∃ qz, qz = (flushD d).2 := ⟨_, rfl⟩
                    rw [← hdz] at hd5
                    rw [← hqz]
                    have ZD5 := Aside0.mk hd5
                    have HR5 := Aside0.mk (HR3.out.went hw5 (Sd' := Sd) (fun k hk => .inl hk))
                    have HB5 := Aside0.mk (HB3.out.trans (hw5.to_below HB3.out.size HS.out))
                    have BX5 := Aside0.mk (blk_kept BX3.out hw5.kept (fun h => by have h1 := HG.out gx h; have h2 := GX.out; omega))
                    have HX5 := Aside0.mk (Kd.F_kept HX3.out hw5.kept (fun k hk h => by have := HS.out k h; omega))
                    have ZL := Aside0.mk (show dz.b.length = n by rw [hdz, flushD_b d HD3.out.fits]; exact HL.out.1)
                    have ZW := Aside0.mk (show dz.ws.length ≤ i + 1 by rw [hdz]; exact Nat.le_trans (flushD_ws d) (Nat.le_succ_of_le HL.out.2))
                    clear hw5 hd5 hc0 hc1 hc2 hc3
                    obtain ⟨vr, arm, hg1, hg2, hg3⟩ := HR5.out.at_
                    obtain ⟨Ar, cr, hvr⟩ := Kd.R_slice hg2
                    subst hvr
                    have hr0 : w5.cell? ⟨gr, 0, none⟩ = some (.string (strOfNums d.b)) := (blk_cell hg1 0).trans rfl
                    have hr1 : w5.cell? ⟨gr, 1, none⟩ = some (.slice Ar (wS d.ws).length cr) := (blk_cell hg1 1).trans rfl
                    have hr2 : w5.cell? ⟨gr, 2, none⟩ = some (.bool d.dead) := (blk_cell hg1 2).trans rfl
                    have hr3 : w5.cell? ⟨gr, 3, none⟩ = some (.int .i64 arm) := (blk_cell hg1 3).trans rfl
                    have HG2 := Aside0.mk hg2
                    have HG3 := Aside0.mk hg3
                    have BRR := Aside0.mk hg1
                    clear hg1 hg2 hg3
                    obtain ⟨kr, hkr⟩ : ∃ kr, 1000001 ≤ kr := ⟨_, Nat.le_refl _⟩
                    obtain ⟨arm', hwr, ha⟩ := rflush_eq HG3.out hn1000 HD3.out.small hw1m HD3.out.fits kr hkr
                    rw [← hdz, ← hqz] at hwr
                    rw [← hdz] at ha
                    have HWR := Aside0.mk hwr
                    have HA6 := Aside0.mk ha
                    clear hwr ha hdz hqz hn1000 hw1m hkr
                    go_wp2_with fail
                    refine (horariumref48_Flush.calls kr (strOfNums d.b) P (.slice Ar (wS d.ws).length cr) (wS d.ws) d.dead arm _ _ _ _ _ w w5 HB5.out HG2.out HWR.out).mono ?_
                    rintro e w6 ⟨v6, rfl, hr6, hb6, hk6⟩
                    obtain ⟨A6, c6, hv6⟩ := Kd.R_slice hr6
                    subst hv6
                    have HR6 := Aside0.mk hr6
                    have HB6 := Aside0.mk hb6
                    have HK6 := Aside0.mk hk6
                    clear hr6 hb6 hk6 hr0 hr1 hr2 hr3
                    have BR6 := Aside0.mk (blk_kept BRR.out HK6.out (fun hp => (HR5.out.off gr hp).2 rfl))
                    have hy0 : w6.cell? ⟨gr, 0, none⟩ = some (.string (strOfNums d.b)) := (blk_cell BR6.out 0).trans rfl
                    have hz0 := blk_frozen BR6.out 0
                    have hy1 : w6.cell? ⟨gr, 1, none⟩ = some (.slice Ar (wS d.ws).length cr) := (blk_cell BR6.out 1).trans rfl
                    have hz1 := blk_frozen BR6.out 1
                    have hy2 : w6.cell? ⟨gr, 2, none⟩ = some (.bool d.dead) := (blk_cell BR6.out 2).trans rfl
                    have hz2 := blk_frozen BR6.out 2
                    have hy3 : w6.cell? ⟨gr, 3, none⟩ = some (.int .i64 arm) := (blk_cell BR6.out 3).trans rfl
                    have hz3 := blk_frozen BR6.out 3
                    go_wp2_with ((with_reducible refine gate_store (t := 89) (p := 6) rfl ?_); refine store_event (t := 89) (p := 6) (v := .tmp 115) (w1 := ((((w6.setCell ⟨gr, 0, none⟩ (.string (strOfNums dz.b))).setCell ⟨gr, 1, none⟩ (.slice A6 (wS dz.ws).length c6)).setCell ⟨gr, 2, none⟩ (.bool dz.dead)).setCell ⟨gr, 3, none⟩ (.int .i64 arm'))) ?hg ?ho ?hn ?hr ?_; (case ho => rfl); (case hg => rfl); (case hn => rfl); (case hr => first | (go_simp; done) | (go_simp; rfl)); intro w7 hw3; obtain ⟨⟨Pz, hpz⟩, hdz7, _⟩ := ref_put HR5.out ZD5.out HK6.out HR6.out HA6.out hw3; have ZR := Aside0.mk hpz; have ZD := Aside0.mk hdz7; have ZB := Aside0.mk (show Below w.heap.size w w7 by rw [hw3]; exact (((HB6.out.setCell (p := ⟨gr, 0, none⟩) HGE.out _).setCell (p := ⟨gr, 1, none⟩) HGE.out _).setCell (p := ⟨gr, 2, none⟩) HGE.out _).setCell (p := ⟨gr, 3, none⟩) HGE.out _); clear hw3 hpz hdz7 hy0 hy1 hy2 hy3 hz0 hz1 hz2 hz3)
                    obtain ⟨vr, arm, hg1, hg2, hg3⟩ := ZR.out.at_
                    have hy0 : w7.cell? ⟨gr, 0, none⟩ = some (.string (strOfNums dz.b)) := (blk_cell hg1 0).trans rfl
                    clear hg2 hg3
                    go_wp2_with fail
                    refine start_ (n := 17) (S := fun w' => w'.cell? ⟨gr, 0, none⟩ = some (.string (strOfNums dz.b))) (ds := []) #[false, false, false, false, false, false, false, false, false, false, false, false, false, false, false, false, false] (by kernel_rfl) rfl rfl hy0 (fun hHeld => ?_); refine with_tabW dev37.tab dev37.bits (fun HT_ HW_ => ?_)
                    have YD := Aside0.mk (ZD.out.below (below_drew (Below.refl _ _))); have YR := Aside0.mk (ZR.out.below (below_drew (Below.refl _ _))); have YB := Aside0.mk (below_drew1 ZB.out); clear ZD ZR ZB hg1 hy0; generalize w7.drew = wy at YD YR YB hHeld ⊢
                    refine pure_ (i := 0) (N := some 137) (v := ?_) (a' := ?_) #[true, false, false, false, false, false, false, false, false, false, false, false, false, false, false, false, false] rfl rfl (any_of HT_.out (by kernel_rfl)) (fun _ _ _ h => h) (Or.inl ⟨by rfl, ?_⟩) ?_ ?_
                    rotate_left
                    · intro w'
                      go_simp
                      with_reducible rfl
                    rotate_left
                    · simp only [Act.put, List.setIfInBounds_toArray, List.set_cons_zero, List.set_cons_succ, i64_w, i32_w]
                      rfl
                    refine pure_ (i := 1) (N := some 138) (v := ?_) (a' := ?_) #[true, true, false, false, false, false, false, false, false, false, false, false, false, false, false, false, false] rfl rfl (any_of HT_.out (by kernel_rfl)) (fun _ _ _ h => h) (Or.inl ⟨by rfl, ?_⟩) ?_ ?_
                    rotate_left
                    · intro w'
                      go_simp
                      with_reducible rfl
                    rotate_left
                    · simp only [Act.put, List.setIfInBounds_toArray, List.set_cons_zero, List.set_cons_succ, i64_w, i32_w]
                      rfl
                    refine pure_ (i := 2) (N := some 139) (v := ?_) (a' := ?_) #[true, true, true, false, false, false, false, false, false, false, false, false, false, false, false, false, false] rfl rfl (any_of HT_.out (by kernel_rfl)) (fun _ _ _ h => h) (Or.inl ⟨by rfl, ?_⟩) ?_ ?_
                    rotate_left
                    · intro w'
                      go_simp
                      with_reducible rfl
                    rotate_left
                    · simp only [Act.put, List.setIfInBounds_toArray, List.set_cons_zero, List.set_cons_succ, i64_w, i32_w]
                      rfl
                    refine pure_ (i := 3) (N := some 140) (v := ?_) (a' := ?_) #[true, true, true, true, false, false, false, false, false, false, false, false, false, false, false, false, false] rfl rfl (any_of HT_.out (by kernel_rfl)) (fun _ _ _ h => h) (Or.inl ⟨by rfl, ?_⟩) ?_ ?_
                    rotate_left
                    · intro w'
                      go_simp
                      with_reducible rfl
                    rotate_left
                    · simp only [Act.put, List.setIfInBounds_toArray, List.set_cons_zero, List.set_cons_succ, i64_w, i32_w]
                      rfl
                    refine pure_ (i := 4) (N := some 141) (v := ?_) (a' := ?_) #[true, true, true, true, true, false, false, false, false, false, false, false, false, false, false, false, false] rfl rfl (any_of HT_.out (by kernel_rfl)) (fun _ _ _ h => h) (Or.inl ⟨by rfl, ?_⟩) ?_ ?_
                    rotate_left
                    · intro w'
                      go_simp
                      with_reducible rfl
                    rotate_left
                    · simp only [Act.put, List.setIfInBounds_toArray, List.set_cons_zero, List.set_cons_succ, i64_w, i32_w]
                      rfl
                    refine pure_ (i := 7) (N := some 144) (v := ?_) (a' := ?_) #[true, true, true, true, true, false, false, true, false, false, false, false, false, false, false, false, false] rfl rfl (any_of HT_.out (by kernel_rfl)) (fun _ _ _ h => h) (Or.inl ⟨by rfl, ?_⟩) ?_ ?_
                    rotate_left
                    · intro w'
                      go_simp
                      with_reducible rfl
                    rotate_left
                    · simp only [Act.put, List.setIfInBounds_toArray, List.set_cons_zero, List.set_cons_succ, i64_w, i32_w]
                      rfl
                    refine take_ (i := 8) (N := some 145) (v := ?_) (a' := ?_) #[true, true, true, true, true, false, false, true, true, false, false, false, false, false, false, false, false] rfl rfl (take_ofW HT_.out HW_.out (by kernel_rfl)) (fun _ _ _ h => h) (Or.inl ⟨by rfl, ?_⟩) hHeld ?_ ?_
                    rotate_left
                    · rintro w' s0
                      go_simp
                      with_reducible rfl
                    rotate_left
                    · simp only [Act.put, List.setIfInBounds_toArray, List.set_cons_zero, List.set_cons_succ, i64_w, i32_w]
                      rfl
                    refine one_ (i := 5) (N := some 142) #[true, true, true, true, true, true, false, true, true, false, false, false, false, false, false, false, false] rfl rfl (one_of HT_.out (by kernel_rfl)) (by decide) (fun K hK => ?_)
                    refine goes_ Try.func85 (by kernel_rfl) rfl #[.pointer (some ⟨gd, 0, none⟩)] (by rfl) rfl rfl (by (try simp only [List.map_toArray, List.map_cons, List.map_nil]); first | done | rfl) ?_
                    refine (bytes_calls YD.out).mono ?_
                    rintro e wx ⟨vx, rfl, hrx, hbx⟩
                    refine ⟨_, rfl, ?_⟩
                    have XD := Aside0.mk (YD.out.below hbx)
                    have XR := Aside0.mk (YR.out.below hbx)
                    have XB := Aside0.mk (below_step YB.out hbx)
                    have HRX := Aside0.mk hrx
                    clear hrx hbx YD YR YB
                    obtain ⟨vr', arm', hg1, hg2, hg3⟩ := XR.out.at_
                    clear hg2 hg3
                    refine hK.out _ _ ((blk_cell hg1 0).trans rfl) (fun hHeld => ?_)
                    clear hK K
                    refine norm_ (a' := ?_) ?_ ?_
                    rotate_left
                    · show Act.put _ (some 142) _ = _
                      simp only [Act.put, List.setIfInBounds_toArray, List.set_cons_zero, List.set_cons_succ, i64_w, i32_w]
                      rfl
                    clear hg1
                    obtain ⟨Ax, cx, hvx⟩ := Kd.R_slice HRX.out
                    subst hvx
                    refine one_ (i := 6) (N := some 143) #[true, true, true, true, true, true, true, true, true, false, false, false, false, false, false, false, false] rfl rfl (one_of HT_.out (by kernel_rfl)) (by decide) (fun K hK => ?_)
                    have hcv := own_string (P := Try.prog) Try.underlying44 Try.underlying5 Try.underlying9 (Kd.own_of_R HRX.out)
                    refine event_step (by rfl) (v := .string (strOfNums dz.b)) (w1 := wx) ?hr ?_; (case hr => first | (go_simp; done) | (go_simp; rfl))
                    clear hcv
                    refine hK.out _ _ hHeld (fun hHeld => ?_)
                    clear hK K
                    refine norm_ (a' := ?_) ?_ ?_
                    rotate_left
                    · show Act.put _ (some 143) _ = _
                      simp only [Act.put, List.setIfInBounds_toArray, List.set_cons_zero, List.set_cons_succ, i64_w, i32_w]
                      rfl
                    refine pure_ (i := 9) (N := some 146) (v := ?_) (a' := ?_) #[true, true, true, true, true, true, true, true, true, true, false, false, false, false, false, false, false] rfl rfl (any_of HT_.out (by kernel_rfl)) (fun _ _ _ h => h) (Or.inl ⟨by rfl, ?_⟩) ?_ ?_
                    rotate_left
                    · intro w'
                      go_simp
                      with_reducible rfl
                    rotate_left
                    · simp only [Act.put, List.setIfInBounds_toArray, List.set_cons_zero, List.set_cons_succ, i64_w, i32_w]
                      rfl
                    refine pure_ (i := 10) (N := some 147) (v := ?_) (a' := ?_) #[true, true, true, true, true, true, true, true, true, true, true, false, false, false, false, false, false] rfl rfl (any_of HT_.out (by kernel_rfl)) (fun _ _ _ h => h) (Or.inl ⟨by rfl, ?_⟩) ?_ ?_
                    rotate_left
                    · intro w'
                      go_simp
                      with_reducible rfl
                    rotate_left
                    · simp only [Act.put, List.setIfInBounds_toArray, List.set_cons_zero, List.set_cons_succ, i64_w, i32_w]
                      rfl
                    refine pure_ (i := 11) (N := some 148) (v := ?_) (a' := ?_) #[true, true, true, true, true, true, true, true, true, true, true, true, false, false, false, false, false] rfl rfl (any_of HT_.out (by kernel_rfl)) (fun _ _ _ h => h) (Or.inl ⟨by rfl, ?_⟩) ?_ ?_
                    rotate_left
                    · intro w'
                      go_simp
                      with_reducible rfl
                    rotate_left
                    · simp only [Act.put, List.setIfInBounds_toArray, List.set_cons_zero, List.set_cons_succ, i64_w, i32_w]
                      rfl
                    refine pure_ (i := 12) (N := some 149) (v := ?_) (a' := ?_) #[true, true, true, true, true, true, true, true, true, true, true, true, true, false, false, false, false] rfl rfl (any_of HT_.out (by kernel_rfl)) (fun _ _ _ h => h) (Or.inl ⟨by rfl, ?_⟩) ?_ ?_
                    rotate_left
                    · intro w'
                      go_simp
                      with_reducible rfl
                    rotate_left
                    · simp only [Act.put, List.setIfInBounds_toArray, List.set_cons_zero, List.set_cons_succ, i64_w, i32_w]
                      rfl
                    refine pure_ (i := 14) (N := some 151) (v := ?_) (a' := ?_) #[true, true, true, true, true, true, true, true, true, true, true, true, true, false, true, false, false] rfl rfl (any_of HT_.out (by kernel_rfl)) (fun _ _ _ h => h) (Or.inl ⟨by rfl, ?_⟩) ?_ ?_
                    rotate_left
                    · intro w'
                      go_simp
                      with_reducible rfl
                    rotate_left
                    · simp only [Act.put, List.setIfInBounds_toArray, List.set_cons_zero, List.set_cons_succ, i64_w, i32_w]
                      rfl
                    refine one_ (i := 13) (N := some 150) #[true, true, true, true, true, true, true, true, true, true, true, true, true, true, true, false, false] rfl rfl (one_of HT_.out (by kernel_rfl)) (by decide) (fun K hK => ?_)
                    refine goes_ Try.func75 (by kernel_rfl) rfl #[.pointer (some ⟨gd, 0, none⟩)] (by rfl) rfl rfl (by (try simp only [List.map_toArray, List.map_cons, List.map_nil]); first | done | rfl) ?_
                    refine (size_calls XD.out).mono ?_
                    rintro e wv ⟨rfl, hbv⟩
                    refine ⟨_, rfl, ?_⟩
                    rw [ZL.out]
                    have VD := Aside0.mk (XD.out.below hbv)
                    have VR := Aside0.mk (XR.out.below hbv)
                    have VB := Aside0.mk (below_step XB.out hbv)
                    clear hbv XD XR XB
                    obtain ⟨vr', arm', hg1, hg2, hg3⟩ := VR.out.at_
                    clear hg2 hg3
                    refine hK.out _ _ ((blk_cell hg1 0).trans rfl) (fun hHeld => ?_)
                    clear hK K
                    refine norm_ (a' := ?_) ?_ ?_
                    rotate_left
                    · show Act.put _ (some 150) _ = _
                      simp only [Act.put, List.setIfInBounds_toArray, List.set_cons_zero, List.set_cons_succ, i64_w, i32_w]
                      rfl
                    clear hg1
                    refine pure_ (i := 15) (N := some 152) (v := ?_) (a' := ?_) #[true, true, true, true, true, true, true, true, true, true, true, true, true, true, true, true, false] rfl rfl (any_of HT_.out (by kernel_rfl)) (fun _ _ _ h => h) (Or.inl ⟨by rfl, ?_⟩) ?_ ?_
                    rotate_left
                    · intro w'
                      go_simp
                      with_reducible rfl
                    rotate_left
                    · simp only [Act.put, List.setIfInBounds_toArray, List.set_cons_zero, List.set_cons_succ, i64_w, i32_w]
                      rfl
                    refine pure_ (i := 16) (N := some 153) (v := ?_) (a' := ?_) #[true, true, true, true, true, true, true, true, true, true, true, true, true, true, true, true, true] rfl rfl (any_of HT_.out (by kernel_rfl)) (fun _ _ _ h => h) (Or.inl ⟨by rfl, ?_⟩) ?_ ?_
                    rotate_left
                    · intro w'
                      go_simp
                      with_reducible rfl
                    rotate_left
                    · simp only [Act.put, List.setIfInBounds_toArray, List.set_cons_zero, List.set_cons_succ, i64_w, i32_w]
                      rfl
                    refine done_ (done_of HT_.out (by kernel_rfl)) ?_
                    go_wp2_with fail
                    go_roundg k1
                    case measure => omega
                    case rel => exact ⟨i + 1, Sd, Pz, dz, (by have h_ : wrap64 ((i : Int) + 1) = ((i + 1 : Nat) : Int) := (by have := hi2.out; unfold wrap64; omega); rw [h_]), ⟨by have := HK.out; omega⟩, VD, VR, ⟨ZL.out, ZW.out⟩, HS, VB⟩
                  · have e4 : (x.k == 4) = false := beq_eq_false_iff_ne.mpr k4
                    clear k4
                    by_cases k5 : x.k = 5
                    · have HK0 := Aside0.mk k5
                      clear k5 e0 e1 e2 e3 e4
                      go_wp2_with (first | ((with_reducible refine gate_dst (N := 8) rfl ?_); refine box_event ?hg (N := 8) ?hd (cs := #[.int .i64 0, .int .i64 0, .int .i64 0, .slice none 0 0]) (t := 92) ?hr ?_; (case hd => rfl); (case hg => rfl); (case hr => first | (go_simp; done) | (go_simp; rfl)); intro gx hgx w2 hbox hb; have BX := Aside0.mk hbox; have HBB := Aside0.mk hb; have GX := Aside0.mk hgx; clear hbox hb hgx; have hy0 : w2.cell? ⟨gx, 0, none⟩ = some (.int .i64 0) := (blk_cell BX.out 0).trans rfl; have hz0 := blk_frozen BX.out 0; have hy1 : w2.cell? ⟨gx, 1, none⟩ = some (.int .i64 0) := (blk_cell BX.out 1).trans rfl; have hz1 := blk_frozen BX.out 1; have hy2 : w2.cell? ⟨gx, 2, none⟩ = some (.int .i64 0) := (blk_cell BX.out 2).trans rfl; have hz2 := blk_frozen BX.out 2; have hy3 : w2.cell? ⟨gx, 3, none⟩ = some (.slice none 0 0) := (blk_cell BX.out 3).trans rfl; have hz3 := blk_frozen BX.out 3) | ((with_reducible refine gate_store (t := 92) (p := 8) rfl ?_); refine store_event (t := 92) (p := 8) (v := .tmp 54) (w1 := ((((w2.setCell ⟨gx, 0, none⟩ (.int .i64 x.k)).setCell ⟨gx, 1, none⟩ (.int .i64 x.a)).setCell ⟨gx, 2, none⟩ (.int .i64 x.n)).setCell ⟨gx, 3, none⟩ (.slice B x.b.length cb))) ?hg ?ho ?hn ?hr ?_; (case ho => rfl); (case hg => rfl); (case hn => rfl); (case hr => first | (go_simp; done) | (go_simp; rfl)); intro w3 hw3; have hb3 : Below wr.heap.size wr w3 := (by rw [hw3]; exact ((((HBB.out.setCell (by rw [GX.out]; exact Nat.le_refl _) _).setCell (by rw [GX.out]; exact Nat.le_refl _) _).setCell (by rw [GX.out]; exact Nat.le_refl _) _).setCell (by rw [GX.out]; exact Nat.le_refl _) _)); have BX3 : w3.heap[gx]? = some (.cells #[.int .i64 x.k, .int .i64 x.a, .int .i64 x.n, .slice B x.b.length cb] 92 (0, 0)) := (by rw [hw3]; exact (blk_put (blk_put (blk_put (blk_put BX.out 0 _ rfl) 1 _ rfl) 2 _ rfl) 3 _ rfl)); have BX3 := Aside0.mk BX3; have HB3 := Aside0.mk (below_step HB.out hb3); have HD3 := Aside0.mk (HD.out.below hb3); have HR3 := Aside0.mk (HR.out.below hb3); have HX3 := Aside0.mk (Kd.F_below HX.out hb3); clear hw3 hb3 hy0 hz0 hy1 hz1 hy2 hz2 hy3 hz3 BX HBB; have hc0 : w3.cell? ⟨gx, 0, none⟩ = some (.int .i64 (5)) := (blk_cell BX3.out 0).trans (show some (Value.int IntKind.i64 x.k) = some (Value.int IntKind.i64 5) from congrArg (fun z => some (Value.int IntKind.i64 z)) HK0.out); have hc1 : w3.cell? ⟨gx, 1, none⟩ = some (.int .i64 x.a) := (blk_cell BX3.out 1).trans rfl; have hc2 : w3.cell? ⟨gx, 2, none⟩ = some (.int .i64 x.n) := (blk_cell BX3.out 2).trans rfl; have hc3 : w3.cell? ⟨gx, 3, none⟩ = some (.slice B x.b.length cb) := (blk_cell BX3.out 3).trans rfl))
                      refine (arm_calls HD3.out x.n).mono ?_
                      rintro e w5 ⟨rfl, hd5, hw5⟩
                      obtain ⟨dz, hdz⟩ : ∃ dz, dz = armD d x.n := ⟨_, rfl⟩
                      rw [← hdz] at hd5
                      have ZD5 := Aside0.mk hd5
                      have HR5 := Aside0.mk (HR3.out.went hw5 (Sd' := Sd) (fun k hk => .inl hk))
                      have HB5 := Aside0.mk (HB3.out.trans (hw5.to_below HB3.out.size HS.out))
                      have BX5 := Aside0.mk (blk_kept BX3.out hw5.kept (fun h => by have h1 := HG.out gx h; have h2 := GX.out; omega))
                      have HX5 := Aside0.mk (Kd.F_kept HX3.out hw5.kept (fun k hk h => by have := HS.out k h; omega))
                      have ZL := Aside0.mk (show dz.b.length = n by rw [hdz]; exact HL.out.1)
                      have ZW := Aside0.mk (show dz.ws.length ≤ i + 1 by rw [hdz]; exact Nat.le_succ_of_le HL.out.2)
                      clear hw5 hd5 hc0 hc1 hc2 hc3
                      obtain ⟨vr, arm, hg1, hg2, hg3⟩ := HR5.out.at_
                      obtain ⟨Ar, cr, hvr⟩ := Kd.R_slice hg2
                      subst hvr
                      have hr0 : w5.cell? ⟨gr, 0, none⟩ = some (.string (strOfNums d.b)) := (blk_cell hg1 0).trans rfl
                      have hr1 : w5.cell? ⟨gr, 1, none⟩ = some (.slice Ar (wS d.ws).length cr) := (blk_cell hg1 1).trans rfl
                      have hr2 : w5.cell? ⟨gr, 2, none⟩ = some (.bool d.dead) := (blk_cell hg1 2).trans rfl
                      have hr3 : w5.cell? ⟨gr, 3, none⟩ = some (.int .i64 arm) := (blk_cell hg1 3).trans rfl
                      have HG2 := Aside0.mk hg2
                      have HG3 := Aside0.mk hg3
                      have BRR := Aside0.mk hg1
                      clear hg1 hg2 hg3
                      have hc2 : w5.cell? ⟨gx, 2, none⟩ = some (.int .i64 x.n) := (blk_cell BX5.out 2).trans rfl
                      obtain ⟨arm', hwr, ha⟩ := rarm_eq (d := d) (strOfNums d.b) (wS d.ws) arm x.n HBX.out.2 (i + 1)
                      have HWR := Aside0.mk (show horariumref48_Arm.f (strOfNums d.b) (wS d.ws) d.dead arm x.n = some (strOfNums dz.b, wS dz.ws, dz.dead, arm') by rw [hdz]; exact hwr)
                      rw [← hdz] at ha
                      have HA6 := Aside0.mk ha
                      clear hwr ha hdz
                      go_wp2_with fail
                      refine (horariumref48_Arm.calls (strOfNums d.b) P (.slice Ar (wS d.ws).length cr) (wS d.ws) d.dead arm x.n _ _ _ _ w w5 HB5.out HG2.out HWR.out).mono ?_
                      rintro e w6 ⟨v6, rfl, hr6, hb6, hk6⟩
                      obtain ⟨A6, c6, hv6⟩ := Kd.R_slice hr6
                      subst hv6
                      have HR6 := Aside0.mk hr6
                      have HB6 := Aside0.mk hb6
                      have HK6 := Aside0.mk hk6
                      clear hr6 hb6 hk6 hc2 hr0 hr1 hr2 hr3
                      have BR6 := Aside0.mk (blk_kept BRR.out HK6.out (fun hp => (HR5.out.off gr hp).2 rfl))
                      have hy0 : w6.cell? ⟨gr, 0, none⟩ = some (.string (strOfNums d.b)) := (blk_cell BR6.out 0).trans rfl
                      have hz0 := blk_frozen BR6.out 0
                      have hy1 : w6.cell? ⟨gr, 1, none⟩ = some (.slice Ar (wS d.ws).length cr) := (blk_cell BR6.out 1).trans rfl
                      have hz1 := blk_frozen BR6.out 1
                      have hy2 : w6.cell? ⟨gr, 2, none⟩ = some (.bool d.dead) := (blk_cell BR6.out 2).trans rfl
                      have hz2 := blk_frozen BR6.out 2
                      have hy3 : w6.cell? ⟨gr, 3, none⟩ = some (.int .i64 arm) := (blk_cell BR6.out 3).trans rfl
                      have hz3 := blk_frozen BR6.out 3
                      go_wp2_with ((with_reducible refine gate_store (t := 89) (p := 6) rfl ?_); refine store_event (t := 89) (p := 6) (v := .tmp 126) (w1 := ((((w6.setCell ⟨gr, 0, none⟩ (.string (strOfNums dz.b))).setCell ⟨gr, 1, none⟩ (.slice A6 (wS dz.ws).length c6)).setCell ⟨gr, 2, none⟩ (.bool dz.dead)).setCell ⟨gr, 3, none⟩ (.int .i64 arm'))) ?hg ?ho ?hn ?hr ?_; (case ho => rfl); (case hg => rfl); (case hn => rfl); (case hr => first | (go_simp; done) | (go_simp; rfl)); intro w7 hw3; obtain ⟨⟨Pz, hpz⟩, hdz7, _⟩ := ref_put HR5.out ZD5.out HK6.out HR6.out HA6.out hw3; have ZR := Aside0.mk hpz; have ZD := Aside0.mk hdz7; have ZB := Aside0.mk (show Below w.heap.size w w7 by rw [hw3]; exact (((HB6.out.setCell (p := ⟨gr, 0, none⟩) HGE.out _).setCell (p := ⟨gr, 1, none⟩) HGE.out _).setCell (p := ⟨gr, 2, none⟩) HGE.out _).setCell (p := ⟨gr, 3, none⟩) HGE.out _); clear hw3 hpz hdz7 hy0 hy1 hy2 hy3 hz0 hz1 hz2 hz3)
                      obtain ⟨vr, arm, hg1, hg2, hg3⟩ := ZR.out.at_
                      have hy0 : w7.cell? ⟨gr, 0, none⟩ = some (.string (strOfNums dz.b)) := (blk_cell hg1 0).trans rfl
                      clear hg2 hg3
                      go_wp2_with fail
                      refine start_ (n := 17) (S := fun w' => w'.cell? ⟨gr, 0, none⟩ = some (.string (strOfNums dz.b))) (ds := []) #[false, false, false, false, false, false, false, false, false, false, false, false, false, false, false, false, false] (by kernel_rfl) rfl rfl hy0 (fun hHeld => ?_); refine with_tabW dev37.tab dev37.bits (fun HT_ HW_ => ?_)
                      have YD := Aside0.mk (ZD.out.below (below_drew (Below.refl _ _))); have YR := Aside0.mk (ZR.out.below (below_drew (Below.refl _ _))); have YB := Aside0.mk (below_drew1 ZB.out); clear ZD ZR ZB hg1 hy0; generalize w7.drew = wy at YD YR YB hHeld ⊢
                      refine pure_ (i := 0) (N := some 137) (v := ?_) (a' := ?_) #[true, false, false, false, false, false, false, false, false, false, false, false, false, false, false, false, false] rfl rfl (any_of HT_.out (by kernel_rfl)) (fun _ _ _ h => h) (Or.inl ⟨by rfl, ?_⟩) ?_ ?_
                      rotate_left
                      · intro w'
                        go_simp
                        with_reducible rfl
                      rotate_left
                      · simp only [Act.put, List.setIfInBounds_toArray, List.set_cons_zero, List.set_cons_succ, i64_w, i32_w]
                        rfl
                      refine pure_ (i := 1) (N := some 138) (v := ?_) (a' := ?_) #[true, true, false, false, false, false, false, false, false, false, false, false, false, false, false, false, false] rfl rfl (any_of HT_.out (by kernel_rfl)) (fun _ _ _ h => h) (Or.inl ⟨by rfl, ?_⟩) ?_ ?_
                      rotate_left
                      · intro w'
                        go_simp
                        with_reducible rfl
                      rotate_left
                      · simp only [Act.put, List.setIfInBounds_toArray, List.set_cons_zero, List.set_cons_succ, i64_w, i32_w]
                        rfl
                      refine pure_ (i := 2) (N := some 139) (v := ?_) (a' := ?_) #[true, true, true, false, false, false, false, false, false, false, false, false, false, false, false, false, false] rfl rfl (any_of HT_.out (by kernel_rfl)) (fun _ _ _ h => h) (Or.inl ⟨by rfl, ?_⟩) ?_ ?_
                      rotate_left
                      · intro w'
                        go_simp
                        with_reducible rfl
                      rotate_left
                      · simp only [Act.put, List.setIfInBounds_toArray, List.set_cons_zero, List.set_cons_succ, i64_w, i32_w]
                        rfl
                      refine pure_ (i := 3) (N := some 140) (v := ?_) (a' := ?_) #[true, true, true, true, false, false, false, false, false, false, false, false, false, false, false, false, false] rfl rfl (any_of HT_.out (by kernel_rfl)) (fun _ _ _ h => h) (Or.inl ⟨by rfl, ?_⟩) ?_ ?_
                      rotate_left
                      · intro w'
                        go_simp
                        with_reducible rfl
                      rotate_left
                      · simp only [Act.put, List.setIfInBounds_toArray, List.set_cons_zero, List.set_cons_succ, i64_w, i32_w]
                        rfl
                      refine pure_ (i := 4) (N := some 141) (v := ?_) (a' := ?_) #[true, true, true, true, true, false, false, false, false, false, false, false, false, false, false, false, false] rfl rfl (any_of HT_.out (by kernel_rfl)) (fun _ _ _ h => h) (Or.inl ⟨by rfl, ?_⟩) ?_ ?_
                      rotate_left
                      · intro w'
                        go_simp
                        with_reducible rfl
                      rotate_left
                      · simp only [Act.put, List.setIfInBounds_toArray, List.set_cons_zero, List.set_cons_succ, i64_w, i32_w]
                        rfl
                      refine pure_ (i := 7) (N := some 144) (v := ?_) (a' := ?_) #[true, true, true, true, true, false, false, true, false, false, false, false, false, false, false, false, false] rfl rfl (any_of HT_.out (by kernel_rfl)) (fun _ _ _ h => h) (Or.inl ⟨by rfl, ?_⟩) ?_ ?_
                      rotate_left
                      · intro w'
                        go_simp
                        with_reducible rfl
                      rotate_left
                      · simp only [Act.put, List.setIfInBounds_toArray, List.set_cons_zero, List.set_cons_succ, i64_w, i32_w]
                        rfl
                      refine take_ (i := 8) (N := some 145) (v := ?_) (a' := ?_) #[true, true, true, true, true, false, false, true, true, false, false, false, false, false, false, false, false] rfl rfl (take_ofW HT_.out HW_.out (by kernel_rfl)) (fun _ _ _ h => h) (Or.inl ⟨by rfl, ?_⟩) hHeld ?_ ?_
                      rotate_left
                      · rintro w' s0
                        go_simp
                        with_reducible rfl
                      rotate_left
                      · simp only [Act.put, List.setIfInBounds_toArray, List.set_cons_zero, List.set_cons_succ, i64_w, i32_w]
                        rfl
                      refine one_ (i := 5) (N := some 142) #[true, true, true, true, true, true, false, true, true, false, false, false, false, false, false, false, false] rfl rfl (one_of HT_.out (by kernel_rfl)) (by decide) (fun K hK => ?_)
                      refine goes_ Try.func85 (by kernel_rfl) rfl #[.pointer (some ⟨gd, 0, none⟩)] (by rfl) rfl rfl (by (try simp only [List.map_toArray, List.map_cons, List.map_nil]); first | done | rfl) ?_
                      refine (bytes_calls YD.out).mono ?_
                      rintro e wx ⟨vx, rfl, hrx, hbx⟩
                      refine ⟨_, rfl, ?_⟩
                      have XD := Aside0.mk (YD.out.below hbx)
                      have XR := Aside0.mk (YR.out.below hbx)
                      have XB := Aside0.mk (below_step YB.out hbx)
                      have HRX := Aside0.mk hrx
                      clear hrx hbx YD YR YB
                      obtain ⟨vr', arm', hg1, hg2, hg3⟩ := XR.out.at_
                      clear hg2 hg3
                      refine hK.out _ _ ((blk_cell hg1 0).trans rfl) (fun hHeld => ?_)
                      clear hK K
                      refine norm_ (a' := ?_) ?_ ?_
                      rotate_left
                      · show Act.put _ (some 142) _ = _
                        simp only [Act.put, List.setIfInBounds_toArray, List.set_cons_zero, List.set_cons_succ, i64_w, i32_w]
                        rfl
                      clear hg1
                      obtain ⟨Ax, cx, hvx⟩ := Kd.R_slice HRX.out
                      subst hvx
                      refine one_ (i := 6) (N := some 143) #[true, true, true, true, true, true, true, true, true, false, false, false, false, false, false, false, false] rfl rfl (one_of HT_.out (by kernel_rfl)) (by decide) (fun K hK => ?_)
                      have hcv := own_string (P := Try.prog) Try.underlying44 Try.underlying5 Try.underlying9 (Kd.own_of_R HRX.out)
                      refine event_step (by rfl) (v := .string (strOfNums dz.b)) (w1 := wx) ?hr ?_; (case hr => first | (go_simp; done) | (go_simp; rfl))
                      clear hcv
                      refine hK.out _ _ hHeld (fun hHeld => ?_)
                      clear hK K
                      refine norm_ (a' := ?_) ?_ ?_
                      rotate_left
                      · show Act.put _ (some 143) _ = _
                        simp only [Act.put, List.setIfInBounds_toArray, List.set_cons_zero, List.set_cons_succ, i64_w, i32_w]
                        rfl
                      refine pure_ (i := 9) (N := some 146) (v := ?_) (a' := ?_) #[true, true, true, true, true, true, true, true, true, true, false, false, false, false, false, false, false] rfl rfl (any_of HT_.out (by kernel_rfl)) (fun _ _ _ h => h) (Or.inl ⟨by rfl, ?_⟩) ?_ ?_
                      rotate_left
                      · intro w'
                        go_simp
                        with_reducible rfl
                      rotate_left
                      · simp only [Act.put, List.setIfInBounds_toArray, List.set_cons_zero, List.set_cons_succ, i64_w, i32_w]
                        rfl
                      refine pure_ (i := 10) (N := some 147) (v := ?_) (a' := ?_) #[true, true, true, true, true, true, true, true, true, true, true, false, false, false, false, false, false] rfl rfl (any_of HT_.out (by kernel_rfl)) (fun _ _ _ h => h) (Or.inl ⟨by rfl, ?_⟩) ?_ ?_
                      rotate_left
                      · intro w'
                        go_simp
                        with_reducible rfl
                      rotate_left
                      · simp only [Act.put, List.setIfInBounds_toArray, List.set_cons_zero, List.set_cons_succ, i64_w, i32_w]
                        rfl
                      refine pure_ (i := 11) (N := some 148) (v := ?_) (a' := ?_) #[true, true, true, true, true, true, true, true, true, true, true, true, false, false, false, false, false] rfl rfl (any_of HT_.out (by kernel_rfl)) (fun _ _ _ h => h) (Or.inl ⟨by rfl, ?_⟩) ?_ ?_
                      rotate_left
                      · intro w'
                        go_simp
                        with_reducible rfl
                      rotate_left
                      · simp only [Act.put, List.setIfInBounds_toArray, List.set_cons_zero, List.set_cons_succ, i64_w, i32_w]
                        rfl
                      refine pure_ (i := 12) (N := some 149) (v := ?_) (a' := ?_) #[true, true, true, true, true, true, true, true, true, true, true, true, true, false, false, false, false] rfl rfl (any_of HT_.out (by kernel_rfl)) (fun _ _ _ h => h) (Or.inl ⟨by rfl, ?_⟩) ?_ ?_
                      rotate_left
                      · intro w'
                        go_simp
                        with_reducible rfl
                      rotate_left
                      · simp only [Act.put, List.setIfInBounds_toArray, List.set_cons_zero, List.set_cons_succ, i64_w, i32_w]
                        rfl
                      refine pure_ (i := 14) (N := some 151) (v := ?_) (a' := ?_) #[true, true, true, true, true, true, true, true, true, true, true, true, true, false, true, false, false] rfl rfl (any_of HT_.out (by kernel_rfl)) (fun _ _ _ h => h) (Or.inl ⟨by rfl, ?_⟩) ?_ ?_
                      rotate_left
                      · intro w'
                        go_simp
                        with_reducible rfl
                      rotate_left
                      · simp only [Act.put, List.setIfInBounds_toArray, List.set_cons_zero, List.set_cons_succ, i64_w, i32_w]
                        rfl
                      refine one_ (i := 13) (N := some 150) #[true, true, true, true, true, true, true, true, true, true, true, true, true, true, true, false, false] rfl rfl (one_of HT_.out (by kernel_rfl)) (by decide) (fun K hK => ?_)
                      refine goes_ Try.func75 (by kernel_rfl) rfl #[.pointer (some ⟨gd, 0, none⟩)] (by rfl) rfl rfl (by (try simp only [List.map_toArray, List.map_cons, List.map_nil]); first | done | rfl) ?_
                      refine (size_calls XD.out).mono ?_
                      rintro e wv ⟨rfl, hbv⟩
                      refine ⟨_, rfl, ?_⟩
                      rw [ZL.out]
                      have VD := Aside0.mk (XD.out.below hbv)
                      have VR := Aside0.mk (XR.out.below hbv)
                      have VB := Aside0.mk (below_step XB.out hbv)
                      clear hbv XD XR XB
                      obtain ⟨vr', arm', hg1, hg2, hg3⟩ := VR.out.at_
                      clear hg2 hg3
                      refine hK.out _ _ ((blk_cell hg1 0).trans rfl) (fun hHeld => ?_)
                      clear hK K
                      refine norm_ (a' := ?_) ?_ ?_
                      rotate_left
                      · show Act.put _ (some 150) _ = _
                        simp only [Act.put, List.setIfInBounds_toArray, List.set_cons_zero, List.set_cons_succ, i64_w, i32_w]
                        rfl
                      clear hg1
                      refine pure_ (i := 15) (N := some 152) (v := ?_) (a' := ?_) #[true, true, true, true, true, true, true, true, true, true, true, true, true, true, true, true, false] rfl rfl (any_of HT_.out (by kernel_rfl)) (fun _ _ _ h => h) (Or.inl ⟨by rfl, ?_⟩) ?_ ?_
                      rotate_left
                      · intro w'
                        go_simp
                        with_reducible rfl
                      rotate_left
                      · simp only [Act.put, List.setIfInBounds_toArray, List.set_cons_zero, List.set_cons_succ, i64_w, i32_w]
                        rfl
                      refine pure_ (i := 16) (N := some 153) (v := ?_) (a' := ?_) #[true, true, true, true, true, true, true, true, true, true, true, true, true, true, true, true, true] rfl rfl (any_of HT_.out (by kernel_rfl)) (fun _ _ _ h => h) (Or.inl ⟨by rfl, ?_⟩) ?_ ?_
                      rotate_left
                      · intro w'
                        go_simp
                        with_reducible rfl
                      rotate_left
                      · simp only [Act.put, List.setIfInBounds_toArray, List.set_cons_zero, List.set_cons_succ, i64_w, i32_w]
                        rfl
                      refine done_ (done_of HT_.out (by kernel_rfl)) ?_
                      go_wp2_with fail
                      go_roundg k1
                      case measure => omega
                      case rel => exact ⟨i + 1, Sd, Pz, dz, (by have h_ : wrap64 ((i : Int) + 1) = ((i + 1 : Nat) : Int) := (by have := hi2.out; unfold wrap64; omega); rw [h_]), ⟨by have := HK.out; omega⟩, VD, VR, ⟨ZL.out, ZW.out⟩, HS, VB⟩
                    · have e5 : (x.k == 5) = false := beq_eq_false_iff_ne.mpr k5
                      clear k5
                      by_cases k6 : x.k = 6
                      · have HK0 := Aside0.mk k6
                        clear k6 e0 e1 e2 e3 e4 e5
                        go_wp2_with (first | ((with_reducible refine gate_dst (N := 8) rfl ?_); refine box_event ?hg (N := 8) ?hd (cs := #[.int .i64 0, .int .i64 0, .int .i64 0, .slice none 0 0]) (t := 92) ?hr ?_; (case hd => rfl); (case hg => rfl); (case hr => first | (go_simp; done) | (go_simp; rfl)); intro gx hgx w2 hbox hb; have BX := Aside0.mk hbox; have HBB := Aside0.mk hb; have GX := Aside0.mk hgx; clear hbox hb hgx; have hy0 : w2.cell? ⟨gx, 0, none⟩ = some (.int .i64 0) := (blk_cell BX.out 0).trans rfl; have hz0 := blk_frozen BX.out 0; have hy1 : w2.cell? ⟨gx, 1, none⟩ = some (.int .i64 0) := (blk_cell BX.out 1).trans rfl; have hz1 := blk_frozen BX.out 1; have hy2 : w2.cell? ⟨gx, 2, none⟩ = some (.int .i64 0) := (blk_cell BX.out 2).trans rfl; have hz2 := blk_frozen BX.out 2; have hy3 : w2.cell? ⟨gx, 3, none⟩ = some (.slice none 0 0) := (blk_cell BX.out 3).trans rfl; have hz3 := blk_frozen BX.out 3) | ((with_reducible refine gate_store (t := 92) (p := 8) rfl ?_); refine store_event (t := 92) (p := 8) (v := .tmp 54) (w1 := ((((w2.setCell ⟨gx, 0, none⟩ (.int .i64 x.k)).setCell ⟨gx, 1, none⟩ (.int .i64 x.a)).setCell ⟨gx, 2, none⟩ (.int .i64 x.n)).setCell ⟨gx, 3, none⟩ (.slice B x.b.length cb))) ?hg ?ho ?hn ?hr ?_; (case ho => rfl); (case hg => rfl); (case hn => rfl); (case hr => first | (go_simp; done) | (go_simp; rfl)); intro w3 hw3; have hb3 : Below wr.heap.size wr w3 := (by rw [hw3]; exact ((((HBB.out.setCell (by rw [GX.out]; exact Nat.le_refl _) _).setCell (by rw [GX.out]; exact Nat.le_refl _) _).setCell (by rw [GX.out]; exact Nat.le_refl _) _).setCell (by rw [GX.out]; exact Nat.le_refl _) _)); have BX3 : w3.heap[gx]? = some (.cells #[.int .i64 x.k, .int .i64 x.a, .int .i64 x.n, .slice B x.b.length cb] 92 (0, 0)) := (by rw [hw3]; exact (blk_put (blk_put (blk_put (blk_put BX.out 0 _ rfl) 1 _ rfl) 2 _ rfl) 3 _ rfl)); have BX3 := Aside0.mk BX3; have HB3 := Aside0.mk (below_step HB.out hb3); have HD3 := Aside0.mk (HD.out.below hb3); have HR3 := Aside0.mk (HR.out.below hb3); have HX3 := Aside0.mk (Kd.F_below HX.out hb3); clear hw3 hb3 hy0 hz0 hy1 hz1 hy2 hz2 hy3 hz3 BX HBB; have hc0 : w3.cell? ⟨gx, 0, none⟩ = some (.int .i64 (6)) := (blk_cell BX3.out 0).trans (show some (Value.int IntKind.i64 x.k) = some (Value.int IntKind.i64 6) from congrArg (fun z => some (Value.int IntKind.i64 z)) HK0.out); have hc1 : w3.cell? ⟨gx, 1, none⟩ = some (.int .i64 x.a) := (blk_cell BX3.out 1).trans rfl; have hc2 : w3.cell? ⟨gx, 2, none⟩ = some (.int .i64 x.n) := (blk_cell BX3.out 2).trans rfl; have hc3 : w3.cell? ⟨gx, 3, none⟩ = some (.slice B x.b.length cb) := (blk_cell BX3.out 3).trans rfl))
                        have hn1000 : i ≤ 1000 := by have := hi2.out; omega
                        have hw1m : d.ws.length ≤ 1000000 := by have := HL.out.2; have := hi2.out; omega
                        refine (crash_calls HD3.out x.n).mono ?_
                        rintro e w5 ⟨rfl, hd5, hw5⟩
                        obtain ⟨dz, hdz⟩ : ∃ dz, dz = crashD d x.n := ⟨_, rfl⟩
                        rw [← hdz] at hd5
                        have ZD5 := Aside0.mk hd5
                        have HR5 := Aside0.mk (HR3.out.went hw5 (Sd' := Sd) (fun k hk => .inl hk))
                        have HB5 := Aside0.mk (HB3.out.trans (hw5.to_below HB3.out.size HS.out))
                        have BX5 := Aside0.mk (blk_kept BX3.out hw5.kept (fun h => by have h1 := HG.out gx h; have h2 := GX.out; omega))
                        have HX5 := Aside0.mk (Kd.F_kept HX3.out hw5.kept (fun k hk h => by have := HS.out k h; omega))
                        have ZL := Aside0.mk (show dz.b.length = n by rw [hdz, crashD_b d x.n HD3.out.fits]; exact HL.out.1)
                        have ZW := Aside0.mk (show dz.ws.length ≤ i + 1 by rw [hdz]; exact Nat.zero_le _)
                        clear hw5 hd5 hc0 hc1 hc2 hc3
                        obtain ⟨vr, arm, hg1, hg2, hg3⟩ := HR5.out.at_
                        obtain ⟨Ar, cr, hvr⟩ := Kd.R_slice hg2
                        subst hvr
                        have hr0 : w5.cell? ⟨gr, 0, none⟩ = some (.string (strOfNums d.b)) := (blk_cell hg1 0).trans rfl
                        have hr1 : w5.cell? ⟨gr, 1, none⟩ = some (.slice Ar (wS d.ws).length cr) := (blk_cell hg1 1).trans rfl
                        have hr2 : w5.cell? ⟨gr, 2, none⟩ = some (.bool d.dead) := (blk_cell hg1 2).trans rfl
                        have hr3 : w5.cell? ⟨gr, 3, none⟩ = some (.int .i64 arm) := (blk_cell hg1 3).trans rfl
                        have HG2 := Aside0.mk hg2
                        have HG3 := Aside0.mk hg3
                        have BRR := Aside0.mk hg1
                        clear hg1 hg2 hg3
                        have hc2 : w5.cell? ⟨gx, 2, none⟩ = some (.int .i64 x.n) := (blk_cell BX5.out 2).trans rfl
                        obtain ⟨kr, hkr⟩ : ∃ kr, 1000001 ≤ kr := ⟨_, Nat.le_refl _⟩
                        obtain ⟨arm', harm⟩ : ∃ arm' : Int, arm' = -1 := ⟨_, rfl⟩
                        have HWR := Aside0.mk (show horariumref48_Crash.f kr (strOfNums d.b) (wS d.ws) d.dead arm x.n = some (strOfNums dz.b, wS dz.ws, dz.dead, arm') by rw [hdz, harm]; exact rcrash_eq HD3.out.small hw1m HD3.out.fits kr hkr d.dead arm x.n)
                        have HA6 := Aside0.mk (show ArmR dz.fuse arm' (i + 1) by rw [hdz, harm]; exact ArmR.new _)
                        clear hdz harm hn1000 hw1m hkr
                        go_wp2_with fail
                        refine (horariumref48_Crash.calls kr (strOfNums d.b) Ar cr (wS d.ws) d.dead arm x.n _ _ _ _ w5 (Kd.R_reads' HG2.out).2.2 (Kd.R_reads' HG2.out).2.1 HWR.out).mono ?_
                        rintro e w6 ⟨v6, rfl, hr6, hb6⟩
                        obtain ⟨A6, c6, hv6⟩ := Kd.R_slice hr6
                        subst hv6
                        have HR6 := Aside0.mk (Kd.R_lower (Kd.R_mono (Kd.R_bound hr6) (ok' := fun k => P k ∨ w5.heap.size ≤ k) (fun k hk => .inr hk.2.1)) HB5.out.size)
                        have HB6 := Aside0.mk (below_step HB5.out hb6)
                        have HK6 := Aside0.mk (Kept.of_below hb6 (fun k => P k))
                        clear hr6 hb6 hc2 hr0 hr1 hr2 hr3
                        have BR6 := Aside0.mk (blk_kept BRR.out HK6.out (fun hp => (HR5.out.off gr hp).2 rfl))
                        have hy0 : w6.cell? ⟨gr, 0, none⟩ = some (.string (strOfNums d.b)) := (blk_cell BR6.out 0).trans rfl
                        have hz0 := blk_frozen BR6.out 0
                        have hy1 : w6.cell? ⟨gr, 1, none⟩ = some (.slice Ar (wS d.ws).length cr) := (blk_cell BR6.out 1).trans rfl
                        have hz1 := blk_frozen BR6.out 1
                        have hy2 : w6.cell? ⟨gr, 2, none⟩ = some (.bool d.dead) := (blk_cell BR6.out 2).trans rfl
                        have hz2 := blk_frozen BR6.out 2
                        have hy3 : w6.cell? ⟨gr, 3, none⟩ = some (.int .i64 arm) := (blk_cell BR6.out 3).trans rfl
                        have hz3 := blk_frozen BR6.out 3
                        go_wp2_with ((with_reducible refine gate_store (t := 89) (p := 6) rfl ?_); refine store_event (t := 89) (p := 6) (v := .tmp 136) (w1 := ((((w6.setCell ⟨gr, 0, none⟩ (.string (strOfNums dz.b))).setCell ⟨gr, 1, none⟩ (.slice A6 (wS dz.ws).length c6)).setCell ⟨gr, 2, none⟩ (.bool dz.dead)).setCell ⟨gr, 3, none⟩ (.int .i64 arm'))) ?hg ?ho ?hn ?hr ?_; (case ho => rfl); (case hg => rfl); (case hn => rfl); (case hr => first | (go_simp; done) | (go_simp; rfl)); intro w7 hw3; obtain ⟨⟨Pz, hpz⟩, hdz7, _⟩ := ref_put HR5.out ZD5.out HK6.out HR6.out HA6.out hw3; have ZR := Aside0.mk hpz; have ZD := Aside0.mk hdz7; have ZB := Aside0.mk (show Below w.heap.size w w7 by rw [hw3]; exact (((HB6.out.setCell (p := ⟨gr, 0, none⟩) HGE.out _).setCell (p := ⟨gr, 1, none⟩) HGE.out _).setCell (p := ⟨gr, 2, none⟩) HGE.out _).setCell (p := ⟨gr, 3, none⟩) HGE.out _); clear hw3 hpz hdz7 hy0 hy1 hy2 hy3 hz0 hz1 hz2 hz3)
                        obtain ⟨vr, arm, hg1, hg2, hg3⟩ := ZR.out.at_
                        have hy0 : w7.cell? ⟨gr, 0, none⟩ = some (.string (strOfNums dz.b)) := (blk_cell hg1 0).trans rfl
                        clear hg2 hg3
                        go_wp2_with fail
                        refine start_ (n := 17) (S := fun w' => w'.cell? ⟨gr, 0, none⟩ = some (.string (strOfNums dz.b))) (ds := []) #[false, false, false, false, false, false, false, false, false, false, false, false, false, false, false, false, false] (by kernel_rfl) rfl rfl hy0 (fun hHeld => ?_); refine with_tabW dev37.tab dev37.bits (fun HT_ HW_ => ?_)
                        have YD := Aside0.mk (ZD.out.below (below_drew (Below.refl _ _))); have YR := Aside0.mk (ZR.out.below (below_drew (Below.refl _ _))); have YB := Aside0.mk (below_drew1 ZB.out); clear ZD ZR ZB hg1 hy0; generalize w7.drew = wy at YD YR YB hHeld ⊢
                        refine pure_ (i := 0) (N := some 137) (v := ?_) (a' := ?_) #[true, false, false, false, false, false, false, false, false, false, false, false, false, false, false, false, false] rfl rfl (any_of HT_.out (by kernel_rfl)) (fun _ _ _ h => h) (Or.inl ⟨by rfl, ?_⟩) ?_ ?_
                        rotate_left
                        · intro w'
                          go_simp
                          with_reducible rfl
                        rotate_left
                        · simp only [Act.put, List.setIfInBounds_toArray, List.set_cons_zero, List.set_cons_succ, i64_w, i32_w]
                          rfl
                        refine pure_ (i := 1) (N := some 138) (v := ?_) (a' := ?_) #[true, true, false, false, false, false, false, false, false, false, false, false, false, false, false, false, false] rfl rfl (any_of HT_.out (by kernel_rfl)) (fun _ _ _ h => h) (Or.inl ⟨by rfl, ?_⟩) ?_ ?_
                        rotate_left
                        · intro w'
                          go_simp
                          with_reducible rfl
                        rotate_left
                        · simp only [Act.put, List.setIfInBounds_toArray, List.set_cons_zero, List.set_cons_succ, i64_w, i32_w]
                          rfl
                        refine pure_ (i := 2) (N := some 139) (v := ?_) (a' := ?_) #[true, true, true, false, false, false, false, false, false, false, false, false, false, false, false, false, false] rfl rfl (any_of HT_.out (by kernel_rfl)) (fun _ _ _ h => h) (Or.inl ⟨by rfl, ?_⟩) ?_ ?_
                        rotate_left
                        · intro w'
                          go_simp
                          with_reducible rfl
                        rotate_left
                        · simp only [Act.put, List.setIfInBounds_toArray, List.set_cons_zero, List.set_cons_succ, i64_w, i32_w]
                          rfl
                        refine pure_ (i := 3) (N := some 140) (v := ?_) (a' := ?_) #[true, true, true, true, false, false, false, false, false, false, false, false, false, false, false, false, false] rfl rfl (any_of HT_.out (by kernel_rfl)) (fun _ _ _ h => h) (Or.inl ⟨by rfl, ?_⟩) ?_ ?_
                        rotate_left
                        · intro w'
                          go_simp
                          with_reducible rfl
                        rotate_left
                        · simp only [Act.put, List.setIfInBounds_toArray, List.set_cons_zero, List.set_cons_succ, i64_w, i32_w]
                          rfl
                        refine pure_ (i := 4) (N := some 141) (v := ?_) (a' := ?_) #[true, true, true, true, true, false, false, false, false, false, false, false, false, false, false, false, false] rfl rfl (any_of HT_.out (by kernel_rfl)) (fun _ _ _ h => h) (Or.inl ⟨by rfl, ?_⟩) ?_ ?_
                        rotate_left
                        · intro w'
                          go_simp
                          with_reducible rfl
                        rotate_left
                        · simp only [Act.put, List.setIfInBounds_toArray, List.set_cons_zero, List.set_cons_succ, i64_w, i32_w]
                          rfl
                        refine pure_ (i := 7) (N := some 144) (v := ?_) (a' := ?_) #[true, true, true, true, true, false, false, true, false, false, false, false, false, false, false, false, false] rfl rfl (any_of HT_.out (by kernel_rfl)) (fun _ _ _ h => h) (Or.inl ⟨by rfl, ?_⟩) ?_ ?_
                        rotate_left
                        · intro w'
                          go_simp
                          with_reducible rfl
                        rotate_left
                        · simp only [Act.put, List.setIfInBounds_toArray, List.set_cons_zero, List.set_cons_succ, i64_w, i32_w]
                          rfl
                        refine take_ (i := 8) (N := some 145) (v := ?_) (a' := ?_) #[true, true, true, true, true, false, false, true, true, false, false, false, false, false, false, false, false] rfl rfl (take_ofW HT_.out HW_.out (by kernel_rfl)) (fun _ _ _ h => h) (Or.inl ⟨by rfl, ?_⟩) hHeld ?_ ?_
                        rotate_left
                        · rintro w' s0
                          go_simp
                          with_reducible rfl
                        rotate_left
                        · simp only [Act.put, List.setIfInBounds_toArray, List.set_cons_zero, List.set_cons_succ, i64_w, i32_w]
                          rfl
                        refine one_ (i := 5) (N := some 142) #[true, true, true, true, true, true, false, true, true, false, false, false, false, false, false, false, false] rfl rfl (one_of HT_.out (by kernel_rfl)) (by decide) (fun K hK => ?_)
                        refine goes_ Try.func85 (by kernel_rfl) rfl #[.pointer (some ⟨gd, 0, none⟩)] (by rfl) rfl rfl (by (try simp only [List.map_toArray, List.map_cons, List.map_nil]); first | done | rfl) ?_
                        refine (bytes_calls YD.out).mono ?_
                        rintro e wx ⟨vx, rfl, hrx, hbx⟩
                        refine ⟨_, rfl, ?_⟩
                        have XD := Aside0.mk (YD.out.below hbx)
                        have XR := Aside0.mk (YR.out.below hbx)
                        have XB := Aside0.mk (below_step YB.out hbx)
                        have HRX := Aside0.mk hrx
                        clear hrx hbx YD YR YB
                        obtain ⟨vr', arm', hg1, hg2, hg3⟩ := XR.out.at_
                        clear hg2 hg3
                        refine hK.out _ _ ((blk_cell hg1 0).trans rfl) (fun hHeld => ?_)
                        clear hK K
                        refine norm_ (a' := ?_) ?_ ?_
                        rotate_left
                        · show Act.put _ (some 142) _ = _
                          simp only [Act.put, List.setIfInBounds_toArray, List.set_cons_zero, List.set_cons_succ, i64_w, i32_w]
                          rfl
                        clear hg1
                        obtain ⟨Ax, cx, hvx⟩ := Kd.R_slice HRX.out
                        subst hvx
                        refine one_ (i := 6) (N := some 143) #[true, true, true, true, true, true, true, true, true, false, false, false, false, false, false, false, false] rfl rfl (one_of HT_.out (by kernel_rfl)) (by decide) (fun K hK => ?_)
                        have hcv := own_string (P := Try.prog) Try.underlying44 Try.underlying5 Try.underlying9 (Kd.own_of_R HRX.out)
                        refine event_step (by rfl) (v := .string (strOfNums dz.b)) (w1 := wx) ?hr ?_; (case hr => first | (go_simp; done) | (go_simp; rfl))
                        clear hcv
                        refine hK.out _ _ hHeld (fun hHeld => ?_)
                        clear hK K
                        refine norm_ (a' := ?_) ?_ ?_
                        rotate_left
                        · show Act.put _ (some 143) _ = _
                          simp only [Act.put, List.setIfInBounds_toArray, List.set_cons_zero, List.set_cons_succ, i64_w, i32_w]
                          rfl
                        refine pure_ (i := 9) (N := some 146) (v := ?_) (a' := ?_) #[true, true, true, true, true, true, true, true, true, true, false, false, false, false, false, false, false] rfl rfl (any_of HT_.out (by kernel_rfl)) (fun _ _ _ h => h) (Or.inl ⟨by rfl, ?_⟩) ?_ ?_
                        rotate_left
                        · intro w'
                          go_simp
                          with_reducible rfl
                        rotate_left
                        · simp only [Act.put, List.setIfInBounds_toArray, List.set_cons_zero, List.set_cons_succ, i64_w, i32_w]
                          rfl
                        refine pure_ (i := 10) (N := some 147) (v := ?_) (a' := ?_) #[true, true, true, true, true, true, true, true, true, true, true, false, false, false, false, false, false] rfl rfl (any_of HT_.out (by kernel_rfl)) (fun _ _ _ h => h) (Or.inl ⟨by rfl, ?_⟩) ?_ ?_
                        rotate_left
                        · intro w'
                          go_simp
                          with_reducible rfl
                        rotate_left
                        · simp only [Act.put, List.setIfInBounds_toArray, List.set_cons_zero, List.set_cons_succ, i64_w, i32_w]
                          rfl
                        refine pure_ (i := 11) (N := some 148) (v := ?_) (a' := ?_) #[true, true, true, true, true, true, true, true, true, true, true, true, false, false, false, false, false] rfl rfl (any_of HT_.out (by kernel_rfl)) (fun _ _ _ h => h) (Or.inl ⟨by rfl, ?_⟩) ?_ ?_
                        rotate_left
                        · intro w'
                          go_simp
                          with_reducible rfl
                        rotate_left
                        · simp only [Act.put, List.setIfInBounds_toArray, List.set_cons_zero, List.set_cons_succ, i64_w, i32_w]
                          rfl
                        refine pure_ (i := 12) (N := some 149) (v := ?_) (a' := ?_) #[true, true, true, true, true, true, true, true, true, true, true, true, true, false, false, false, false] rfl rfl (any_of HT_.out (by kernel_rfl)) (fun _ _ _ h => h) (Or.inl ⟨by rfl, ?_⟩) ?_ ?_
                        rotate_left
                        · intro w'
                          go_simp
                          with_reducible rfl
                        rotate_left
                        · simp only [Act.put, List.setIfInBounds_toArray, List.set_cons_zero, List.set_cons_succ, i64_w, i32_w]
                          rfl
                        refine pure_ (i := 14) (N := some 151) (v := ?_) (a' := ?_) #[true, true, true, true, true, true, true, true, true, true, true, true, true, false, true, false, false] rfl rfl (any_of HT_.out (by kernel_rfl)) (fun _ _ _ h => h) (Or.inl ⟨by rfl, ?_⟩) ?_ ?_
                        rotate_left
                        · intro w'
                          go_simp
                          with_reducible rfl
                        rotate_left
                        · simp only [Act.put, List.setIfInBounds_toArray, List.set_cons_zero, List.set_cons_succ, i64_w, i32_w]
                          rfl
                        refine one_ (i := 13) (N := some 150) #[true, true, true, true, true, true, true, true, true, true, true, true, true, true, true, false, false] rfl rfl (one_of HT_.out (by kernel_rfl)) (by decide) (fun K hK => ?_)
                        refine goes_ Try.func75 (by kernel_rfl) rfl #[.pointer (some ⟨gd, 0, none⟩)] (by rfl) rfl rfl (by (try simp only [List.map_toArray, List.map_cons, List.map_nil]); first | done | rfl) ?_
                        refine (size_calls XD.out).mono ?_
                        rintro e wv ⟨rfl, hbv⟩
                        refine ⟨_, rfl, ?_⟩
                        rw [ZL.out]
                        have VD := Aside0.mk (XD.out.below hbv)
                        have VR := Aside0.mk (XR.out.below hbv)
                        have VB := Aside0.mk (below_step XB.out hbv)
                        clear hbv XD XR XB
                        obtain ⟨vr', arm', hg1, hg2, hg3⟩ := VR.out.at_
                        clear hg2 hg3
                        refine hK.out _ _ ((blk_cell hg1 0).trans rfl) (fun hHeld => ?_)
                        clear hK K
                        refine norm_ (a' := ?_) ?_ ?_
                        rotate_left
                        · show Act.put _ (some 150) _ = _
                          simp only [Act.put, List.setIfInBounds_toArray, List.set_cons_zero, List.set_cons_succ, i64_w, i32_w]
                          rfl
                        clear hg1
                        refine pure_ (i := 15) (N := some 152) (v := ?_) (a' := ?_) #[true, true, true, true, true, true, true, true, true, true, true, true, true, true, true, true, false] rfl rfl (any_of HT_.out (by kernel_rfl)) (fun _ _ _ h => h) (Or.inl ⟨by rfl, ?_⟩) ?_ ?_
                        rotate_left
                        · intro w'
                          go_simp
                          with_reducible rfl
                        rotate_left
                        · simp only [Act.put, List.setIfInBounds_toArray, List.set_cons_zero, List.set_cons_succ, i64_w, i32_w]
                          rfl
                        refine pure_ (i := 16) (N := some 153) (v := ?_) (a' := ?_) #[true, true, true, true, true, true, true, true, true, true, true, true, true, true, true, true, true] rfl rfl (any_of HT_.out (by kernel_rfl)) (fun _ _ _ h => h) (Or.inl ⟨by rfl, ?_⟩) ?_ ?_
                        rotate_left
                        · intro w'
                          go_simp
                          with_reducible rfl
                        rotate_left
                        · simp only [Act.put, List.setIfInBounds_toArray, List.set_cons_zero, List.set_cons_succ, i64_w, i32_w]
                          rfl
                        refine done_ (done_of HT_.out (by kernel_rfl)) ?_
                        go_wp2_with fail
                        go_roundg k1
                        case measure => omega
                        case rel => exact ⟨i + 1, Sd, Pz, dz, (by have h_ : wrap64 ((i : Int) + 1) = ((i + 1 : Nat) : Int) := (by have := hi2.out; unfold wrap64; omega); rw [h_]), ⟨by have := HK.out; omega⟩, VD, VR, ⟨ZL.out, ZW.out⟩, HS, VB⟩
                      · have e6 : (x.k == 6) = false := beq_eq_false_iff_ne.mpr k6
                        clear k6
                        go_wp2_with (first | ((with_reducible refine gate_dst (N := 8) rfl ?_); refine box_event ?hg (N := 8) ?hd (cs := #[.int .i64 0, .int .i64 0, .int .i64 0, .slice none 0 0]) (t := 92) ?hr ?_; (case hd => rfl); (case hg => rfl); (case hr => first | (go_simp; done) | (go_simp; rfl)); intro gx hgx w2 hbox hb; have BX := Aside0.mk hbox; have HBB := Aside0.mk hb; have GX := Aside0.mk hgx; clear hbox hb hgx; have hy0 : w2.cell? ⟨gx, 0, none⟩ = some (.int .i64 0) := (blk_cell BX.out 0).trans rfl; have hz0 := blk_frozen BX.out 0; have hy1 : w2.cell? ⟨gx, 1, none⟩ = some (.int .i64 0) := (blk_cell BX.out 1).trans rfl; have hz1 := blk_frozen BX.out 1; have hy2 : w2.cell? ⟨gx, 2, none⟩ = some (.int .i64 0) := (blk_cell BX.out 2).trans rfl; have hz2 := blk_frozen BX.out 2; have hy3 : w2.cell? ⟨gx, 3, none⟩ = some (.slice none 0 0) := (blk_cell BX.out 3).trans rfl; have hz3 := blk_frozen BX.out 3) | ((with_reducible refine gate_store (t := 92) (p := 8) rfl ?_); refine store_event (t := 92) (p := 8) (v := .tmp 54) (w1 := ((((w2.setCell ⟨gx, 0, none⟩ (.int .i64 x.k)).setCell ⟨gx, 1, none⟩ (.int .i64 x.a)).setCell ⟨gx, 2, none⟩ (.int .i64 x.n)).setCell ⟨gx, 3, none⟩ (.slice B x.b.length cb))) ?hg ?ho ?hn ?hr ?_; (case ho => rfl); (case hg => rfl); (case hn => rfl); (case hr => first | (go_simp; done) | (go_simp; rfl)); intro w3 hw3; have hb3 : Below wr.heap.size wr w3 := (by rw [hw3]; exact ((((HBB.out.setCell (by rw [GX.out]; exact Nat.le_refl _) _).setCell (by rw [GX.out]; exact Nat.le_refl _) _).setCell (by rw [GX.out]; exact Nat.le_refl _) _).setCell (by rw [GX.out]; exact Nat.le_refl _) _)); have BX3 : w3.heap[gx]? = some (.cells #[.int .i64 x.k, .int .i64 x.a, .int .i64 x.n, .slice B x.b.length cb] 92 (0, 0)) := (by rw [hw3]; exact (blk_put (blk_put (blk_put (blk_put BX.out 0 _ rfl) 1 _ rfl) 2 _ rfl) 3 _ rfl)); have BX3 := Aside0.mk BX3; have HB3 := Aside0.mk (below_step HB.out hb3); have HD3 := Aside0.mk (HD.out.below hb3); have HR3 := Aside0.mk (HR.out.below hb3); have HX3 := Aside0.mk (Kd.F_below HX.out hb3); clear hw3 hb3 hy0 hz0 hy1 hz1 hy2 hz2 hy3 hz3 BX HBB; have hc0 : w3.cell? ⟨gx, 0, none⟩ = some (.int .i64 (x.k)) := (blk_cell BX3.out 0).trans (rfl); have hc1 : w3.cell? ⟨gx, 1, none⟩ = some (.int .i64 x.a) := (blk_cell BX3.out 1).trans rfl; have hc2 : w3.cell? ⟨gx, 2, none⟩ = some (.int .i64 x.n) := (blk_cell BX3.out 2).trans rfl; have hc3 : w3.cell? ⟨gx, 3, none⟩ = some (.slice B x.b.length cb) := (blk_cell BX3.out 3).trans rfl))
                        have ZD := Aside0.mk HD3.out
                        have ZR := Aside0.mk HR3.out.more
                        have ZB := Aside0.mk HB3.out
                        have ZL := Aside0.mk HL.out.1
                        have ZW := Aside0.mk (Nat.le_succ_of_le HL.out.2)
                        clear hc0 hc1 hc2 hc3
                        obtain ⟨vr, arm, hg1, hg2, hg3⟩ := ZR.out.at_
                        have hy0 : w3.cell? ⟨gr, 0, none⟩ = some (.string (strOfNums d.b)) := (blk_cell hg1 0).trans rfl
                        clear hg2 hg3
                        go_wp2_with fail
                        refine start_ (n := 17) (S := fun w' => w'.cell? ⟨gr, 0, none⟩ = some (.string (strOfNums d.b))) (ds := []) #[false, false, false, false, false, false, false, false, false, false, false, false, false, false, false, false, false] (by kernel_rfl) rfl rfl hy0 (fun hHeld => ?_); refine with_tabW dev37.tab dev37.bits (fun HT_ HW_ => ?_)
                        have YD := Aside0.mk (ZD.out.below (below_drew (Below.refl _ _))); have YR := Aside0.mk (ZR.out.below (below_drew (Below.refl _ _))); have YB := Aside0.mk (below_drew1 ZB.out); clear ZD ZR ZB hg1 hy0; generalize w3.drew = wy at YD YR YB hHeld ⊢
                        refine pure_ (i := 0) (N := some 137) (v := ?_) (a' := ?_) #[true, false, false, false, false, false, false, false, false, false, false, false, false, false, false, false, false] rfl rfl (any_of HT_.out (by kernel_rfl)) (fun _ _ _ h => h) (Or.inl ⟨by rfl, ?_⟩) ?_ ?_
                        rotate_left
                        · intro w'
                          go_simp
                          with_reducible rfl
                        rotate_left
                        · simp only [Act.put, List.setIfInBounds_toArray, List.set_cons_zero, List.set_cons_succ, i64_w, i32_w]
                          rfl
                        refine pure_ (i := 1) (N := some 138) (v := ?_) (a' := ?_) #[true, true, false, false, false, false, false, false, false, false, false, false, false, false, false, false, false] rfl rfl (any_of HT_.out (by kernel_rfl)) (fun _ _ _ h => h) (Or.inl ⟨by rfl, ?_⟩) ?_ ?_
                        rotate_left
                        · intro w'
                          go_simp
                          with_reducible rfl
                        rotate_left
                        · simp only [Act.put, List.setIfInBounds_toArray, List.set_cons_zero, List.set_cons_succ, i64_w, i32_w]
                          rfl
                        refine pure_ (i := 2) (N := some 139) (v := ?_) (a' := ?_) #[true, true, true, false, false, false, false, false, false, false, false, false, false, false, false, false, false] rfl rfl (any_of HT_.out (by kernel_rfl)) (fun _ _ _ h => h) (Or.inl ⟨by rfl, ?_⟩) ?_ ?_
                        rotate_left
                        · intro w'
                          go_simp
                          with_reducible rfl
                        rotate_left
                        · simp only [Act.put, List.setIfInBounds_toArray, List.set_cons_zero, List.set_cons_succ, i64_w, i32_w]
                          rfl
                        refine pure_ (i := 3) (N := some 140) (v := ?_) (a' := ?_) #[true, true, true, true, false, false, false, false, false, false, false, false, false, false, false, false, false] rfl rfl (any_of HT_.out (by kernel_rfl)) (fun _ _ _ h => h) (Or.inl ⟨by rfl, ?_⟩) ?_ ?_
                        rotate_left
                        · intro w'
                          go_simp
                          with_reducible rfl
                        rotate_left
                        · simp only [Act.put, List.setIfInBounds_toArray, List.set_cons_zero, List.set_cons_succ, i64_w, i32_w]
                          rfl
                        refine pure_ (i := 4) (N := some 141) (v := ?_) (a' := ?_) #[true, true, true, true, true, false, false, false, false, false, false, false, false, false, false, false, false] rfl rfl (any_of HT_.out (by kernel_rfl)) (fun _ _ _ h => h) (Or.inl ⟨by rfl, ?_⟩) ?_ ?_
                        rotate_left
                        · intro w'
                          go_simp
                          with_reducible rfl
                        rotate_left
                        · simp only [Act.put, List.setIfInBounds_toArray, List.set_cons_zero, List.set_cons_succ, i64_w, i32_w]
                          rfl
                        refine pure_ (i := 7) (N := some 144) (v := ?_) (a' := ?_) #[true, true, true, true, true, false, false, true, false, false, false, false, false, false, false, false, false] rfl rfl (any_of HT_.out (by kernel_rfl)) (fun _ _ _ h => h) (Or.inl ⟨by rfl, ?_⟩) ?_ ?_
                        rotate_left
                        · intro w'
                          go_simp
                          with_reducible rfl
                        rotate_left
                        · simp only [Act.put, List.setIfInBounds_toArray, List.set_cons_zero, List.set_cons_succ, i64_w, i32_w]
                          rfl
                        refine take_ (i := 8) (N := some 145) (v := ?_) (a' := ?_) #[true, true, true, true, true, false, false, true, true, false, false, false, false, false, false, false, false] rfl rfl (take_ofW HT_.out HW_.out (by kernel_rfl)) (fun _ _ _ h => h) (Or.inl ⟨by rfl, ?_⟩) hHeld ?_ ?_
                        rotate_left
                        · rintro w' s0
                          go_simp
                          with_reducible rfl
                        rotate_left
                        · simp only [Act.put, List.setIfInBounds_toArray, List.set_cons_zero, List.set_cons_succ, i64_w, i32_w]
                          rfl
                        refine one_ (i := 5) (N := some 142) #[true, true, true, true, true, true, false, true, true, false, false, false, false, false, false, false, false] rfl rfl (one_of HT_.out (by kernel_rfl)) (by decide) (fun K hK => ?_)
                        refine goes_ Try.func85 (by kernel_rfl) rfl #[.pointer (some ⟨gd, 0, none⟩)] (by rfl) rfl rfl (by (try simp only [List.map_toArray, List.map_cons, List.map_nil]); first | done | rfl) ?_
                        refine (bytes_calls YD.out).mono ?_
                        rintro e wx ⟨vx, rfl, hrx, hbx⟩
                        refine ⟨_, rfl, ?_⟩
                        have XD := Aside0.mk (YD.out.below hbx)
                        have XR := Aside0.mk (YR.out.below hbx)
                        have XB := Aside0.mk (below_step YB.out hbx)
                        have HRX := Aside0.mk hrx
                        clear hrx hbx YD YR YB
                        obtain ⟨vr', arm', hg1, hg2, hg3⟩ := XR.out.at_
                        clear hg2 hg3
                        refine hK.out _ _ ((blk_cell hg1 0).trans rfl) (fun hHeld => ?_)
                        clear hK K
                        refine norm_ (a' := ?_) ?_ ?_
                        rotate_left
                        · show Act.put _ (some 142) _ = _
                          simp only [Act.put, List.setIfInBounds_toArray, List.set_cons_zero, List.set_cons_succ, i64_w, i32_w]
                          rfl
                        clear hg1
                        obtain ⟨Ax, cx, hvx⟩ := Kd.R_slice HRX.out
                        subst hvx
                        refine one_ (i := 6) (N := some 143) #[true, true, true, true, true, true, true, true, true, false, false, false, false, false, false, false, false] rfl rfl (one_of HT_.out (by kernel_rfl)) (by decide) (fun K hK => ?_)
                        have hcv := own_string (P := Try.prog) Try.underlying44 Try.underlying5 Try.underlying9 (Kd.own_of_R HRX.out)
                        refine event_step (by rfl) (v := .string (strOfNums d.b)) (w1 := wx) ?hr ?_; (case hr => first | (go_simp; done) | (go_simp; rfl))
                        clear hcv
                        refine hK.out _ _ hHeld (fun hHeld => ?_)
                        clear hK K
                        refine norm_ (a' := ?_) ?_ ?_
                        rotate_left
                        · show Act.put _ (some 143) _ = _
                          simp only [Act.put, List.setIfInBounds_toArray, List.set_cons_zero, List.set_cons_succ, i64_w, i32_w]
                          rfl
                        refine pure_ (i := 9) (N := some 146) (v := ?_) (a' := ?_) #[true, true, true, true, true, true, true, true, true, true, false, false, false, false, false, false, false] rfl rfl (any_of HT_.out (by kernel_rfl)) (fun _ _ _ h => h) (Or.inl ⟨by rfl, ?_⟩) ?_ ?_
                        rotate_left
                        · intro w'
                          go_simp
                          with_reducible rfl
                        rotate_left
                        · simp only [Act.put, List.setIfInBounds_toArray, List.set_cons_zero, List.set_cons_succ, i64_w, i32_w]
                          rfl
                        refine pure_ (i := 10) (N := some 147) (v := ?_) (a' := ?_) #[true, true, true, true, true, true, true, true, true, true, true, false, false, false, false, false, false] rfl rfl (any_of HT_.out (by kernel_rfl)) (fun _ _ _ h => h) (Or.inl ⟨by rfl, ?_⟩) ?_ ?_
                        rotate_left
                        · intro w'
                          go_simp
                          with_reducible rfl
                        rotate_left
                        · simp only [Act.put, List.setIfInBounds_toArray, List.set_cons_zero, List.set_cons_succ, i64_w, i32_w]
                          rfl
                        refine pure_ (i := 11) (N := some 148) (v := ?_) (a' := ?_) #[true, true, true, true, true, true, true, true, true, true, true, true, false, false, false, false, false] rfl rfl (any_of HT_.out (by kernel_rfl)) (fun _ _ _ h => h) (Or.inl ⟨by rfl, ?_⟩) ?_ ?_
                        rotate_left
                        · intro w'
                          go_simp
                          with_reducible rfl
                        rotate_left
                        · simp only [Act.put, List.setIfInBounds_toArray, List.set_cons_zero, List.set_cons_succ, i64_w, i32_w]
                          rfl
                        refine pure_ (i := 12) (N := some 149) (v := ?_) (a' := ?_) #[true, true, true, true, true, true, true, true, true, true, true, true, true, false, false, false, false] rfl rfl (any_of HT_.out (by kernel_rfl)) (fun _ _ _ h => h) (Or.inl ⟨by rfl, ?_⟩) ?_ ?_
                        rotate_left
                        · intro w'
                          go_simp
                          with_reducible rfl
                        rotate_left
                        · simp only [Act.put, List.setIfInBounds_toArray, List.set_cons_zero, List.set_cons_succ, i64_w, i32_w]
                          rfl
                        refine pure_ (i := 14) (N := some 151) (v := ?_) (a' := ?_) #[true, true, true, true, true, true, true, true, true, true, true, true, true, false, true, false, false] rfl rfl (any_of HT_.out (by kernel_rfl)) (fun _ _ _ h => h) (Or.inl ⟨by rfl, ?_⟩) ?_ ?_
                        rotate_left
                        · intro w'
                          go_simp
                          with_reducible rfl
                        rotate_left
                        · simp only [Act.put, List.setIfInBounds_toArray, List.set_cons_zero, List.set_cons_succ, i64_w, i32_w]
                          rfl
                        refine one_ (i := 13) (N := some 150) #[true, true, true, true, true, true, true, true, true, true, true, true, true, true, true, false, false] rfl rfl (one_of HT_.out (by kernel_rfl)) (by decide) (fun K hK => ?_)
                        refine goes_ Try.func75 (by kernel_rfl) rfl #[.pointer (some ⟨gd, 0, none⟩)] (by rfl) rfl rfl (by (try simp only [List.map_toArray, List.map_cons, List.map_nil]); first | done | rfl) ?_
                        refine (size_calls XD.out).mono ?_
                        rintro e wv ⟨rfl, hbv⟩
                        refine ⟨_, rfl, ?_⟩
                        rw [ZL.out]
                        have VD := Aside0.mk (XD.out.below hbv)
                        have VR := Aside0.mk (XR.out.below hbv)
                        have VB := Aside0.mk (below_step XB.out hbv)
                        clear hbv XD XR XB
                        obtain ⟨vr', arm', hg1, hg2, hg3⟩ := VR.out.at_
                        clear hg2 hg3
                        refine hK.out _ _ ((blk_cell hg1 0).trans rfl) (fun hHeld => ?_)
                        clear hK K
                        refine norm_ (a' := ?_) ?_ ?_
                        rotate_left
                        · show Act.put _ (some 150) _ = _
                          simp only [Act.put, List.setIfInBounds_toArray, List.set_cons_zero, List.set_cons_succ, i64_w, i32_w]
                          rfl
                        clear hg1
                        refine pure_ (i := 15) (N := some 152) (v := ?_) (a' := ?_) #[true, true, true, true, true, true, true, true, true, true, true, true, true, true, true, true, false] rfl rfl (any_of HT_.out (by kernel_rfl)) (fun _ _ _ h => h) (Or.inl ⟨by rfl, ?_⟩) ?_ ?_
                        rotate_left
                        · intro w'
                          go_simp
                          with_reducible rfl
                        rotate_left
                        · simp only [Act.put, List.setIfInBounds_toArray, List.set_cons_zero, List.set_cons_succ, i64_w, i32_w]
                          rfl
                        refine pure_ (i := 16) (N := some 153) (v := ?_) (a' := ?_) #[true, true, true, true, true, true, true, true, true, true, true, true, true, true, true, true, true] rfl rfl (any_of HT_.out (by kernel_rfl)) (fun _ _ _ h => h) (Or.inl ⟨by rfl, ?_⟩) ?_ ?_
                        rotate_left
                        · intro w'
                          go_simp
                          with_reducible rfl
                        rotate_left
                        · simp only [Act.put, List.setIfInBounds_toArray, List.set_cons_zero, List.set_cons_succ, i64_w, i32_w]
                          rfl
                        refine done_ (done_of HT_.out (by kernel_rfl)) ?_
                        go_wp2_with fail
                        go_roundg k1
                        case measure => omega
                        case rel => exact ⟨i + 1, Sd, P, d, (by have h_ : wrap64 ((i : Int) + 1) = ((i + 1 : Nat) : Int) := (by have := hi2.out; unfold wrap64; omega); rw [h_]), ⟨by have := HK.out; omega⟩, VD, VR, ⟨ZL.out, ZW.out⟩, HS, VB⟩
end Go.Proofs.Ytccjdefhieilpaa.VT
