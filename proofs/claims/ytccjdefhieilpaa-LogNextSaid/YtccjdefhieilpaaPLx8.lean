-- Written by a program of this session (wip/tools/patch_print.py over the print of the kit)
import Derived.Test.YtccjdefhieilpaaPLx0
import Derived.Test.YtccjdefhieilpaaPLx3
import Derived.Test.YtccjdefhieilpaaPLx4
import Derived.Test.YtccjdefhieilpaaPLx6
import Derived.Test.YtccjdefhieilpaaPCx1
namespace Go.Proofs.Ytccjdefhieilpaa.PL
open Go.RowKit Go.Proofs.YtccjdefhieilpaaW.PrintWords Go.Proofs.YtccjdefhieilpaaW.PrintLast Go.Proofs.YtccjdefhieilpaaW.PrintMore Go.Proofs.Ytccjdefhieilpaa.PB
attribute [local go_sem] max2_int min2_int max_two min_two max_three min_three max_four min_four   -- for this text's walks alone
set_option linter.unusedVariables false
set_option linter.unusedSimpArgs false

/-! ### horariumlaw47_LogNext: function 23 -/
def horariumlaw47_LogNext.f (k : Nat) (l0 : List Int) (a1 : Int) : Option (Bool) := if (l0.length : Int) > 130000 then ((horariumlaw47_heads.f k).bind fun t385 => (some t385)) else ((log_Next.f k l0 a1).bind fun bt386 => ((horariumref47_Next.f k l0 a1).bind fun bt393 => (if bt386.1 = bt393.1 then ((horariumref03_Same.f bt386.2.1 bt393.2.1).bind fun t400 => (if t400 = true then (if bt386.2.2.1 = bt393.2.2.1 then (if bt386.2.2.2 = bt393.2.2.2 then ((horariumlaw47_heads.f k).bind fun t401 => (some t401)) else (some false)) else (some false)) else (some false))) else (some false))))
theorem horariumlaw47_LogNext.mono : ∀ a0 a1 k, LeO (horariumlaw47_LogNext.f k a0 a1) (horariumlaw47_LogNext.f (k + 1) a0 a1) := by
  intro a0 a1 k
  unfold horariumlaw47_LogNext.f
  repeat' first
      | (with_reducible exact horariumlaw47_heads.mono _)
      | (with_reducible exact horariumref47_Next.mono _ _ _)
      | (with_reducible exact log_Next.mono _ _ _)
      | (with_reducible exact LeO.refl _)
      | (with_reducible exact LeO.none _)
      | (with_reducible refine LeO.ite ?_ ?_)
      | (with_reducible refine LeO.bind ?_ (fun _ => ?_))
      | exact horariumlaw47_heads.mono _
      | exact horariumref47_Next.mono _ _ _
      | exact log_Next.mono _ _ _
      | exact LeO.none _
      | refine LeO.ite ?_ ?_
      | refine LeO.bind ?_ (fun _ => ?_)
set_option maxHeartbeats 8000000 in
set_option maxRecDepth 100000 in
theorem horariumlaw47_LogNext.calls (k : Nat) (A0 : Option Addr) (c0 : Nat) (l0 : List Int) (a1 : Int) (r : Bool) (hr_ : r = true) (w : World) (hr0 : Kd.C (Kd.int .u8) w A0 l0.length l0) (hc0 : l0.length ≤ c0) (h : horariumlaw47_LogNext.f k l0 a1 = some r) :
    Calls Try.prog 23 #[.slice A0 l0.length c0, .int .i64 a1] w fun e w' => e = .returned (.bool r) ∧ Below w.heap.size w w' := by
  have hu68 := Try.underlying68
  have HR0 := Aside0.mk hr0
  have HC0 := Aside0.mk hc0
  clear hr0 hc0
  have HB := Aside0.mk (Below.refl w.heap.size w)
  have H : (if (l0.length : Int) > 130000 then ((horariumlaw47_heads.f k).bind fun t385 => (some t385)) else ((log_Next.f k l0 a1).bind fun bt386 => ((horariumref47_Next.f k l0 a1).bind fun bt393 => (if bt386.1 = bt393.1 then ((horariumref03_Same.f bt386.2.1 bt393.2.1).bind fun t400 => (if t400 = true then (if bt386.2.2.1 = bt393.2.2.1 then (if bt386.2.2.2 = bt393.2.2.2 then ((horariumlaw47_heads.f k).bind fun t401 => (some t401)) else (some false)) else (some false)) else (some false))) else (some false))))) = some r := h
  clear h
  by_cases c3 : (l0.length : Int) > 130000
  · rw [if_pos c3] at H
    have c3b0 : decide (130000 < (l0.length : Int)) = true := decide_eq_true c3
    have c3b1 : decide (130000 < l0.length) = true := decide_eq_true (by omega)
    clear c3
    replace H := Option.bind_eq_some_iff.mp H
    obtain ⟨t385, A40, H⟩ := H
    replace H : (some t385) = some r := H
    have A4 := Aside0.mk A40
    clear A40
    obtain rfl := Option.some.inj H
    go_enter Try.func23, Try.ntmps23
    go_wp2_with (first | ((with_reducible refine gate_callee (f := 101) rfl ?_); refine goesL_ (some 14) rfl rfl Try.func101 (by kernel_rfl) rfl #[] rfl (by (try simp only [List.map_toArray, List.map_cons, List.map_nil]); first | done | rfl | (simp only [List.length_drop, List.length_take]; rfl)) ?_; (with_reducible refine (horariumlaw47_heads.calls k  t385 _ A4.out).mono ?_); rintro e w5 ⟨rfl, hb⟩; refine ⟨_, rfl, ?_⟩; have n0_ := Aside0.mk (below_step (by repeat (first | (with_reducible first | exact HB.out | apply below_alloc | apply pw_below_drewN | apply below_drew1) | exact HB.out)) hb); clear HB; have HB := n0_; clear n0_; (try clear hb); (try clear hb2); (try clear hk); (try clear hi)))
    go_ret
    exact ⟨by first | rfl | (simp [errW_none, errW_some] <;> rfl) | (simp [*, errW_none, errW_some] <;> rfl), by repeat (first | (with_reducible first | exact HB.out | apply below_alloc | apply pw_below_drewN | apply below_drew1) | exact HB.out)⟩
  · rw [if_neg c3] at H
    have c3b0 : decide (130000 < (l0.length : Int)) = false := decide_eq_false c3
    have c3b1 : decide (130000 < l0.length) = false := decide_eq_false (by omega)
    clear c3
    replace H := Option.bind_eq_some_iff.mp H
    obtain ⟨⟨t386, t387, t390, t391⟩, A60, H⟩ := H
    replace H : ((horariumref47_Next.f k l0 a1).bind fun bt393 => (if t386 = bt393.1 then ((horariumref03_Same.f t387 bt393.2.1).bind fun t400 => (if t400 = true then (if t390 = bt393.2.2.1 then (if t391 = bt393.2.2.2 then ((horariumlaw47_heads.f k).bind fun t401 => (some t401)) else (some false)) else (some false)) else (some false))) else (some false))) = some r := H
    have A6 := Aside0.mk A60
    clear A60
    replace H := Option.bind_eq_some_iff.mp H
    obtain ⟨⟨t393, t394, t397, t398⟩, A70, H⟩ := H
    replace H : (if t386 = t393 then ((horariumref03_Same.f t387 t394).bind fun t400 => (if t400 = true then (if t390 = t397 then (if t391 = t398 then ((horariumlaw47_heads.f k).bind fun t401 => (some t401)) else (some false)) else (some false)) else (some false))) else (some false)) = some r := H
    have A7 := Aside0.mk A70
    clear A70
    by_cases c8 : t386 = t393
    · rw [if_pos c8] at H
      have c8b0 : (t386 == t393) = true := beq_iff_eq.mpr c8
      have c8b1 : (t386 != t393) = false := bne_eq_false_iff_eq.mpr c8
      clear c8
      replace H := Option.bind_eq_some_iff.mp H
      obtain ⟨t400, A90, H⟩ := H
      replace H : (if t400 = true then (if t390 = t397 then (if t391 = t398 then ((horariumlaw47_heads.f k).bind fun t401 => (some t401)) else (some false)) else (some false)) else (some false)) = some r := H
      have A9 := Aside0.mk A90
      clear A90
      by_cases c10 : t400 = true
      · subst c10
        have H1 : (if t390 = t397 then (if t391 = t398 then ((horariumlaw47_heads.f k).bind fun t401 => (some t401)) else (some false)) else (some false)) = some r := by rw [if_pos rfl] at H; exact H
        clear H
        have H := H1
        clear H1
        by_cases c11 : t390 = t397
        · rw [if_pos c11] at H
          have c11b0 : (t390 == t397) = true := beq_iff_eq.mpr c11
          have c11b1 : (t390 != t397) = false := bne_eq_false_iff_eq.mpr c11
          clear c11
          by_cases c12 : t391 = t398
          · rw [if_pos c12] at H
            have c12b0 : (t391 == t398) = true := beq_iff_eq.mpr c12
            have c12b1 : (t391 != t398) = false := bne_eq_false_iff_eq.mpr c12
            clear c12
            replace H := Option.bind_eq_some_iff.mp H
            obtain ⟨t401, A130, H⟩ := H
            replace H : (some t401) = some r := H
            have A13 := Aside0.mk A130
            clear A130
            obtain rfl := Option.some.inj H
            go_enter Try.func23, Try.ntmps23
            go_wp2_with (first | ((with_reducible refine gate_callee (f := 105) rfl ?_); refine goesL_ (some 18) rfl rfl Try.func105 (by kernel_rfl) rfl #[.slice A0 l0.length c0, .int .i64 a1] rfl (by (try simp only [List.map_toArray, List.map_cons, List.map_nil]); first | done | rfl | (simp only [List.length_drop, List.length_take]; rfl)) ?_; (with_reducible refine (log_Next.calls k _ _ l0 a1 t386 t387 t390 t391 _ ?side1 ?side2 A6.out).mono ?_); (case side1 => repeat (first | exact HR0.out | (with_reducible refine Kd.C_alloc ?_ _) | (with_reducible refine Kd.C_drewN ?_ _) | (with_reducible refine Kd.C_drew ?_))); (case side2 => exact HC0.out); rintro e w14 ⟨v388, rfl, ho0, hb⟩; refine ⟨_, rfl, ?_⟩; have n0_ := Aside0.mk (Kd.R_lower ho0 (below_size (by repeat (first | (with_reducible first | exact HB.out | apply below_alloc | apply pw_below_drewN | apply below_drew1) | exact HB.out)))); have n1_ := Aside0.mk (below_step (by repeat (first | (with_reducible first | exact HB.out | apply below_alloc | apply pw_below_drewN | apply below_drew1) | exact HB.out)) hb); clear HB; have HO389 := n0_; have HB := n1_; clear n0_ n1_; (try clear hb); (try clear hb2); (try clear hk); (try clear hi); (try clear ho0)) | ((with_reducible refine gate_dst (N := 5) rfl ?_); refine box_event ?hg (N := 5) ?hd (cs := #[.int .i64 0, .slice none 0 0]) (t := 68) ?hr ?_; (case hd => rfl); (case hg => rfl); (case hr => first | (go_simp; done) | (go_simp; rfl)); intro gb392 hg w15 hbox hb; have n0_ := Aside0.mk (Kd.R_below (by (with_reducible repeat (first | apply Kd.R_alloc | apply Kd.R_drewN | apply Kd.R_drew)); exact HO389.out) hb); have n1_ := Aside0.mk (below_step (by repeat (first | (with_reducible first | exact HB.out | apply below_alloc | apply pw_below_drewN | apply below_drew1) | exact HB.out)) hb); have n2_ := Aside0.mk (hbox); have n3_ := Aside0.mk ((by rw [hg]; exact (below_size (by repeat (first | (with_reducible first | exact HB.out | apply below_alloc | apply pw_below_drewN | apply below_drew1) | exact HB.out))) : w.heap.size ≤ gb392)); have n4_ := Aside0.mk ((by rw [hg]; exact (below_size (by repeat (first | (with_reducible first | exact HB.out | apply below_alloc | apply pw_below_drewN | apply below_drew1) | exact HB.out))) : w.heap.size ≤ gb392)); clear HO389; clear HB; have HO389 := n0_; have HB := n1_; have BK392 := n2_; have GW392 := n3_; have GE392 := n4_; clear n0_ n1_ n2_ n3_ n4_; clear hb hbox hg; have hcz16_0 : w15.cell? ⟨gb392, 0, none⟩ = some (.int .i64 0) := (blk_cell BK392.out 0).trans rfl; have hcz16_1 : w15.cell? ⟨gb392, 1, none⟩ = some (.slice none 0 0) := (blk_cell BK392.out 1).trans rfl; have hfz16_0 := blk_frozen BK392.out 0; have hfz16_1 := blk_frozen BK392.out 1; obtain ⟨Ao17, co17, eo17⟩ := Kd.R_slice HO389.out; subst eo17) | ((with_reducible refine gate_callee (f := 106) rfl ?_); refine goesL_ (some 25) rfl rfl Try.func106 (by kernel_rfl) rfl #[.slice A0 l0.length c0, .int .i64 a1] rfl (by (try simp only [List.map_toArray, List.map_cons, List.map_nil]); first | done | rfl | (simp only [List.length_drop, List.length_take]; rfl)) ?_; (with_reducible refine (horariumref47_Next.calls k _ _ l0 a1 t393 t394 t397 t398 _ ?side1 ?side2 A7.out).mono ?_); (case side1 => exact Kd.C_below HR0.out (by repeat (first | (with_reducible first | exact HB.out | apply below_alloc | apply pw_below_drewN | apply below_drew1 | refine below_set ?_ GE392.out) | exact HB.out))); (case side2 => exact HC0.out); rintro e w18 ⟨Ao22, co22, rfl, hl_, hC_, hb⟩; refine ⟨_, rfl, ?_⟩; have n0_ := Aside0.mk (Kd.R_below (by (with_reducible repeat (first | apply Kd.R_alloc | apply Kd.R_drewN | apply Kd.R_drew)); exact (Kd.R_mono (Kd.R_far (p := ⟨gb392, 1, none⟩) (Kd.R_far (p := ⟨gb392, 0, none⟩) (Kd.R_types HO389.out BK392.out (by decide)) (fun _ hk => hk.2) (.int .i64 t386)) (fun _ hk => hk.2) (.slice Ao17 t387.length co17)) (fun _ h_ => h_.1))) hb); have HL22 := Aside0.mk hl_; have n1_ := Aside0.mk hC_; have n2_ := Aside0.mk (blk_below (g := gb392) (o := .cells #[.int .i64 t386, .slice Ao17 t387.length co17] 68 (0, 0)) (by (with_reducible repeat (first | refine blk_drewN ?_ _ | refine blk_drew ?_ | refine blk_alloc ?_ _)); refine blk_put (cs := #[.int .i64 t386, .slice none 0 0]) ?_ 1 _ rfl; (with_reducible repeat (first | refine blk_drewN ?_ _ | refine blk_drew ?_ | refine blk_alloc ?_ _)); refine blk_put (cs := #[.int .i64 0, .slice none 0 0]) ?_ 0 _ rfl; (with_reducible repeat (first | refine blk_drewN ?_ _ | refine blk_drew ?_ | refine blk_alloc ?_ _)); exact BK392.out) hb); have n3_ := Aside0.mk (below_step (by repeat (first | (with_reducible first | exact HB.out | apply below_alloc | apply pw_below_drewN | apply below_drew1 | refine below_set ?_ GE392.out) | exact HB.out)) hb); clear HO389; clear BK392; clear HB; have HO389 := n0_; have HO396 := n1_; have BK392 := n2_; have HB := n3_; clear n0_ n1_ n2_ n3_; (try clear hb); (try clear hb2); (try clear hk); (try clear hi); (try clear ho0)) | ((with_reducible refine gate_dst (N := 8) rfl ?_); refine box_event ?hg (N := 8) ?hd (cs := #[.int .i64 0, .slice none 0 0]) (t := 68) ?hr ?_; (case hd => rfl); (case hg => rfl); (case hr => first | (go_simp; done) | (go_simp; rfl)); intro gb399 hg w19 hbox hb; have n0_ := Aside0.mk (Kd.R_below (by (with_reducible repeat (first | apply Kd.R_alloc | apply Kd.R_drewN | apply Kd.R_drew)); exact HO389.out) hb); have n1_ := Aside0.mk HO396.out; have n2_ := Aside0.mk (blk_below (g := gb392) (o := .cells #[.int .i64 t386, .slice Ao17 t387.length co17] 68 (0, 0)) (by (with_reducible repeat (first | refine blk_drewN ?_ _ | refine blk_drew ?_ | refine blk_alloc ?_ _)); exact BK392.out) hb); have n3_ := Aside0.mk (below_step (by repeat (first | (with_reducible first | exact HB.out | apply below_alloc | apply pw_below_drewN | apply below_drew1 | refine below_set ?_ GE392.out) | exact HB.out)) hb); have n4_ := Aside0.mk (hbox); have n5_ := Aside0.mk ((by rw [hg]; exact (below_size (by repeat (first | (with_reducible first | exact HB.out | apply below_alloc | apply pw_below_drewN | apply below_drew1 | refine below_set ?_ GE392.out) | exact HB.out))) : w.heap.size ≤ gb399)); have n6_ := Aside0.mk ((by rw [hg]; exact (below_size (by repeat (first | (with_reducible first | exact HB.out | apply below_alloc | apply pw_below_drewN | apply below_drew1 | refine below_set ?_ GE392.out) | exact HB.out))) : w.heap.size ≤ gb399)); have n7_ := Aside0.mk ((by rw [hg]; exact Nat.ne_of_lt (blk_lt (g := gb392) (o := .cells #[.int .i64 t386, .slice Ao17 t387.length co17] 68 (0, 0)) (by (with_reducible repeat (first | refine blk_drewN ?_ _ | refine blk_drew ?_ | refine blk_alloc ?_ _)); exact BK392.out)) : gb392 ≠ gb399)); have n8_ := Aside0.mk ((by rw [hg]; exact Nat.ne_of_gt (blk_lt (g := gb392) (o := .cells #[.int .i64 t386, .slice Ao17 t387.length co17] 68 (0, 0)) (by (with_reducible repeat (first | refine blk_drewN ?_ _ | refine blk_drew ?_ | refine blk_alloc ?_ _)); exact BK392.out)) : gb399 ≠ gb392)); clear HO389; clear HO396; clear BK392; clear HB; have HO389 := n0_; have HO396 := n1_; have BK392 := n2_; have HB := n3_; have BK399 := n4_; have GW399 := n5_; have GE399 := n6_; have NB392_399 := n7_; have NB399_392 := n8_; clear n0_ n1_ n2_ n3_ n4_ n5_ n6_ n7_ n8_; clear hb hbox hg; have hnb20 := NB399_392.out; have hnc20 := NB392_399.out; have hcz21_0 : w19.cell? ⟨gb399, 0, none⟩ = some (.int .i64 0) := (blk_cell BK399.out 0).trans rfl; have hcz21_1 : w19.cell? ⟨gb399, 1, none⟩ = some (.slice none 0 0) := (blk_cell BK399.out 1).trans rfl; have hfz21_0 := blk_frozen BK399.out 0; have hfz21_1 := blk_frozen BK399.out 1; have hcz23_0 : w19.cell? ⟨gb392, 0, none⟩ = some (.int .i64 t386) := (blk_cell BK392.out 0).trans rfl; have hcz23_1 : w19.cell? ⟨gb392, 1, none⟩ = some (.slice Ao17 t387.length co17) := (blk_cell BK392.out 1).trans rfl; have hfz23_0 := blk_frozen BK392.out 0; have hfz23_1 := blk_frozen BK392.out 1) | (go_at_call 46; (with_reducible refine (horariumref03_Same.calls _ _ t387 _ _ t394 true _ ?side1 ?side2 ?side3 ?side4 A9.out).mono ?_); (case side1 => refine (Kd.R_reads' (e := 5) (base := w.heap.size) (ok := fun _ => True) (n := t387.length) (c := co17) ?_).2.2; exact (by (with_reducible repeat (first | apply Kd.R_alloc | apply Kd.R_drewN | apply Kd.R_drew)); exact (Kd.R_mono (Kd.R_far (p := ⟨gb399, 1, none⟩) (Kd.R_far (p := ⟨gb399, 0, none⟩) (Kd.R_types HO389.out BK399.out (by decide)) (fun _ hk => hk.2) (.int .i64 t393)) (fun _ hk => hk.2) (.slice Ao22 t394.length co22)) (fun _ h_ => h_.1)))); (case side2 => exact (Kd.R_reads' HO389.out).2.1); (case side3 => exact HO396.out _ (Kd.C_below HR0.out (by repeat (first | (with_reducible first | exact HB.out | apply below_alloc | apply pw_below_drewN | apply below_drew1 | refine below_set ?_ GE392.out | refine below_set ?_ GE399.out) | exact HB.out)))); (case side4 => exact HL22.out); rintro e w' ⟨rfl, ⟨nd, rfl⟩⟩) | (go_at_call 101; (with_reducible refine (horariumlaw47_heads.calls k  t401 _ A13.out).mono ?_); rintro e w24 ⟨rfl, hb⟩; have n0_ := Aside0.mk (Kd.R_below (by (with_reducible repeat (first | apply Kd.R_alloc | apply Kd.R_drewN | apply Kd.R_drew)); exact (Kd.R_mono (Kd.R_far (p := ⟨gb399, 1, none⟩) (Kd.R_far (p := ⟨gb399, 0, none⟩) (Kd.R_types HO389.out BK399.out (by decide)) (fun _ hk => hk.2) (.int .i64 t393)) (fun _ hk => hk.2) (.slice Ao22 t394.length co22)) (fun _ h_ => h_.1))) hb); have n1_ := Aside0.mk HO396.out; have n2_ := Aside0.mk (blk_below (g := gb392) (o := .cells #[.int .i64 t386, .slice Ao17 t387.length co17] 68 (0, 0)) (by (with_reducible repeat (first | refine blk_drewN ?_ _ | refine blk_drew ?_ | refine blk_alloc ?_ _)); refine blk_far ?_ NB392_399.out _; (with_reducible repeat (first | refine blk_drewN ?_ _ | refine blk_drew ?_ | refine blk_alloc ?_ _)); refine blk_far ?_ NB392_399.out _; (with_reducible repeat (first | refine blk_drewN ?_ _ | refine blk_drew ?_ | refine blk_alloc ?_ _)); exact BK392.out) hb); have n3_ := Aside0.mk (blk_below (g := gb399) (o := .cells #[.int .i64 t393, .slice Ao22 t394.length co22] 68 (0, 0)) (by (with_reducible repeat (first | refine blk_drewN ?_ _ | refine blk_drew ?_ | refine blk_alloc ?_ _)); refine blk_put (cs := #[.int .i64 t393, .slice none 0 0]) ?_ 1 _ rfl; (with_reducible repeat (first | refine blk_drewN ?_ _ | refine blk_drew ?_ | refine blk_alloc ?_ _)); refine blk_put (cs := #[.int .i64 0, .slice none 0 0]) ?_ 0 _ rfl; (with_reducible repeat (first | refine blk_drewN ?_ _ | refine blk_drew ?_ | refine blk_alloc ?_ _)); exact BK399.out) hb); have n4_ := Aside0.mk (below_step (by repeat (first | (with_reducible first | exact HB.out | apply below_alloc | apply pw_below_drewN | apply below_drew1 | refine below_set ?_ GE392.out | refine below_set ?_ GE399.out) | exact HB.out)) hb); clear HO389; clear HO396; clear BK392; clear BK399; clear HB; have HO389 := n0_; have HO396 := n1_; have BK392 := n2_; have BK399 := n3_; have HB := n4_; clear n0_ n1_ n2_ n3_ n4_; (try clear hb); (try clear hb2); (try clear hk); (try clear hi)))
            go_ret
            exact ⟨by first | rfl | (simp [errW_none, errW_some] <;> rfl) | (simp [*, errW_none, errW_some] <;> rfl), by repeat (first | (with_reducible first | exact HB.out | apply below_alloc | apply pw_below_drewN | apply below_drew1 | refine below_set ?_ GE392.out | refine below_set ?_ GE399.out) | exact HB.out)⟩
          · rw [if_neg c12] at H
            exact absurd ((Option.some.inj H).trans hr_) Bool.false_ne_true
        · rw [if_neg c11] at H
          exact absurd ((Option.some.inj H).trans hr_) Bool.false_ne_true
      · replace c10 := Bool.eq_false_iff.mpr c10
        subst c10
        have H1 : (some false) = some r := by rw [if_neg (show ¬ (false = true) by decide)] at H; exact H
        clear H
        have H := H1
        clear H1
        exact absurd ((Option.some.inj H).trans hr_) Bool.false_ne_true
    · rw [if_neg c8] at H
      exact absurd ((Option.some.inj H).trans hr_) Bool.false_ne_true
/-- THE ONE PURE STATEMENT of horariumlaw47_LogNext: yours. -/
def horariumlaw47_LogNext.Pure : Prop := ∀ (l0 : List Int) (a1 : Int), l0.length ≤ maxLen → l0.length * 1 ≤ 140737488351232 → (∀ x ∈ l0, (Lit.int .u8 x).wf = true) → (Lit.int .i64 a1).wf = true → ∃ k, horariumlaw47_LogNext.f k l0 a1 = some true
theorem horariumlaw47_LogNext.walk (P : horariumlaw47_LogNext.Pure) (a0 : Option Addr) (len0 cap0 : Nat) (z0 : List Int) (a1 : Int) (w : World) (w0 : (a0 = none ∧ len0 = 0 ∧ cap0 = 0 ∧ z0 = []) ∨ ∃ x, a0 = some x ∧ len0 ≤ cap0 ∧ cap0 ≤ maxLen ∧ z0.length = cap0 ∧ (∀ i, i < z0.length → w.cell? (x.add i) = some (.int .u8 (z0.getD i 0))) ∧ ∀ n ∈ z0, (Lit.int .u8 n).wf = true) (y0 : len0 * 1 ≤ 140737488351232) (w1 : (Lit.int .i64 a1).wf = true) :
    Calls Try.prog 23 #[.slice a0 len0 cap0, .int .i64 a1] w fun e w' => e = .returned (.bool true) ∧ Below w.heap.size w w' := by
  obtain ⟨l0, rfl, hr0, hm0, hw0, hc0⟩ := ReadsInt.ofRowC w0
  obtain ⟨k, h⟩ := P l0 a1 hm0 y0 hw0 w1
  refine (horariumlaw47_LogNext.calls k _ _ l0 a1 true rfl w (Kd.C_of_reads (d := (0 : Int)) (h1 := fun _ => rfl) hr0) hc0 h).mono ?_
  rintro e w' ⟨rfl, hd⟩
  exact ⟨rfl, hd⟩

end Go.Proofs.Ytccjdefhieilpaa.PL
