-- Written by a program of this session (wip/tools/patch_print.py over the print of the kit)
import Derived.Test.YtccjdefhieilpaaPBx0
import Derived.Test.YtccjdefhieilpaaPBx3
import Derived.Test.YtccjdefhieilpaaPBx4
import Derived.Test.YtccjdefhieilpaaPBx5
import Derived.Test.YtccjdefhieilpaaPBx6
namespace Go.Proofs.Ytccjdefhieilpaa.PB
open Go.RowKit Go.Proofs.YtccjdefhieilpaaW.PrintWords Go.Proofs.YtccjdefhieilpaaW.PrintLast Go.Proofs.YtccjdefhieilpaaW.PrintMore
attribute [local go_sem] max2_int min2_int max_two min_two max_three min_three max_four min_four   -- for this text's walks alone
set_option linter.unusedVariables false
set_option linter.unusedSimpArgs false

/-! ### horariumlaw03_OctetCut: function 21 -/
mutual
def horariumlaw03_OctetCut.j0 : Nat → Int → ByteArray → Int → Bool → Option (Bool)
  | 0, _, _, _, _ => none
  | k + 1, x0, x1, x2, x21 => if x21 = true then ((horariumlaw03_heads.f k).bind fun t490 => (some t490)) else ((octet_Put.f k x0).bind fun t491 => ((octet_PutText.f k x1).bind fun t494 => (if x2 < (t491.length : Int) then (if 0 ≤ x2 then (if x2 ≤ (t491.length : Int) then ((octet_Take.f k (t491.take (x2 : Int).toNat) 0).bind fun bt501 => (if bt501.2.2 = 4 then (horariumlaw03_OctetCut.j1 k x2 t494) else (some false))) else (none)) else (none)) else (horariumlaw03_OctetCut.j1 k x2 t494))))
def horariumlaw03_OctetCut.j1 : Nat → Int → List Int → Option (Bool)
  | 0, _, _ => none
  | k + 1, x2, x8 => if x2 < (x8.length : Int) then (if 0 ≤ x2 then (if x2 ≤ (x8.length : Int) then ((octet_TakeText.f k (x8.take (x2 : Int).toNat) 0 1000).bind fun bt508 => (if bt508.2.2 = 4 then ((horariumlaw03_heads.f k).bind fun t511 => (some t511)) else (some false))) else (none)) else (none)) else ((horariumlaw03_heads.f k).bind fun t512 => (some t512))
end
def horariumlaw03_OctetCut.f (k : Nat) (a0 : Int) (a1 : ByteArray) (a2 : Int) : Option (Bool) := (horariumlaw03_short.f ([] : List Int) a1 ([] : List Int)).bind fun t489 => (if t489 = true then (horariumlaw03_OctetCut.j0 k a0 a1 a2 (decide (a2 < 0))) else (horariumlaw03_OctetCut.j0 k a0 a1 a2 true))
theorem horariumlaw03_OctetCut.mono_l : ∀ k, (∀ y0 y1 y2 y3, LeO (horariumlaw03_OctetCut.j0 k y0 y1 y2 y3) (horariumlaw03_OctetCut.j0 (k + 1) y0 y1 y2 y3)) ∧ (∀ y0 y1, LeO (horariumlaw03_OctetCut.j1 k y0 y1) (horariumlaw03_OctetCut.j1 (k + 1) y0 y1))
  | 0 => ⟨fun _ _ _ _ r h => by simp [horariumlaw03_OctetCut.j0] at h, fun _ _ r h => by simp [horariumlaw03_OctetCut.j1] at h⟩
  | k + 1 => by
    obtain ⟨ih0, ih1⟩ := horariumlaw03_OctetCut.mono_l k
    refine ⟨?_, ?_⟩
    · intro y0 y1 y2 y3
      unfold horariumlaw03_OctetCut.j0
      repeat' first
      | (with_reducible exact ih0 _ _ _ _)
      | (with_reducible exact ih1 _ _)
      | (with_reducible exact horariumlaw03_heads.mono _)
      | (with_reducible exact octet_Put.mono _ _)
      | (with_reducible exact octet_PutText.mono _ _)
      | (with_reducible exact octet_Take.mono _ _ _)
      | (with_reducible exact octet_TakeText.mono _ _ _ _)
      | (with_reducible exact LeO.refl _)
      | (with_reducible exact LeO.none _)
      | (with_reducible refine LeO.ite ?_ ?_)
      | (with_reducible refine LeO.bind ?_ (fun _ => ?_))
      | exact ih0 _ _ _ _
      | exact ih1 _ _
      | exact horariumlaw03_heads.mono _
      | exact octet_Put.mono _ _
      | exact octet_PutText.mono _ _
      | exact octet_Take.mono _ _ _
      | exact octet_TakeText.mono _ _ _ _
      | exact LeO.none _
      | refine LeO.ite ?_ ?_
      | refine LeO.bind ?_ (fun _ => ?_)
    · intro y0 y1
      unfold horariumlaw03_OctetCut.j1
      repeat' first
      | (with_reducible exact ih0 _ _ _ _)
      | (with_reducible exact ih1 _ _)
      | (with_reducible exact horariumlaw03_heads.mono _)
      | (with_reducible exact octet_Put.mono _ _)
      | (with_reducible exact octet_PutText.mono _ _)
      | (with_reducible exact octet_Take.mono _ _ _)
      | (with_reducible exact octet_TakeText.mono _ _ _ _)
      | (with_reducible exact LeO.refl _)
      | (with_reducible exact LeO.none _)
      | (with_reducible refine LeO.ite ?_ ?_)
      | (with_reducible refine LeO.bind ?_ (fun _ => ?_))
      | exact ih0 _ _ _ _
      | exact ih1 _ _
      | exact horariumlaw03_heads.mono _
      | exact octet_Put.mono _ _
      | exact octet_PutText.mono _ _
      | exact octet_Take.mono _ _ _
      | exact octet_TakeText.mono _ _ _ _
      | exact LeO.none _
      | refine LeO.ite ?_ ?_
      | refine LeO.bind ?_ (fun _ => ?_)
theorem horariumlaw03_OctetCut.mono : ∀ a0 a1 a2 k, LeO (horariumlaw03_OctetCut.f k a0 a1 a2) (horariumlaw03_OctetCut.f (k + 1) a0 a1 a2) := by
  intro a0 a1 a2 k
  obtain ⟨ih0, ih1⟩ := horariumlaw03_OctetCut.mono_l k
  unfold horariumlaw03_OctetCut.f
  repeat' first
      | (with_reducible exact ih0 _ _ _ _)
      | (with_reducible exact ih1 _ _)
      | (with_reducible exact horariumlaw03_heads.mono _)
      | (with_reducible exact octet_Put.mono _ _)
      | (with_reducible exact octet_PutText.mono _ _)
      | (with_reducible exact octet_Take.mono _ _ _)
      | (with_reducible exact octet_TakeText.mono _ _ _ _)
      | (with_reducible exact LeO.refl _)
      | (with_reducible exact LeO.none _)
      | (with_reducible refine LeO.ite ?_ ?_)
      | (with_reducible refine LeO.bind ?_ (fun _ => ?_))
      | exact ih0 _ _ _ _
      | exact ih1 _ _
      | exact horariumlaw03_heads.mono _
      | exact octet_Put.mono _ _
      | exact octet_PutText.mono _ _
      | exact octet_Take.mono _ _ _
      | exact octet_TakeText.mono _ _ _ _
      | exact LeO.none _
      | refine LeO.ite ?_ ?_
      | refine LeO.bind ?_ (fun _ => ?_)
set_option maxHeartbeats 8000000 in
set_option maxRecDepth 100000 in
theorem horariumlaw03_OctetCut.calls (k : Nat) (a0 : Int) (a1 : ByteArray) (a2 : Int) (r : Bool) (w : World) (h : horariumlaw03_OctetCut.f k a0 a1 a2 = some r) :
    Calls Try.prog 21 #[.int .u64 a0, .string a1, .int .i64 a2] w fun e w' => e = .returned (.bool r) ∧ Below w.heap.size w w' := by
  have HB := Aside0.mk (Below.refl w.heap.size w)
  have H : ((horariumlaw03_short.f ([] : List Int) a1 ([] : List Int)).bind fun t489 => (if t489 = true then (horariumlaw03_OctetCut.j0 k a0 a1 a2 (decide (a2 < 0))) else (horariumlaw03_OctetCut.j0 k a0 a1 a2 true))) = some r := h
  clear h
  have HC4 := Aside0.mk H
  clear H
  go_enter Try.func21, Try.ntmps21
  go_upto_region 1 with (fail)
  go_cut [21] (fun v21 wc => ∃ (kq : Nat) (x21_3 : Bool), v21 = .bool x21_3 ∧ Aside0 (horariumlaw03_OctetCut.j0 kq a0 a1 a2 x21_3 = some r) ∧ Aside0 (kq ≤ k) ∧ Aside0 (Below w.heap.size w wc))
  case first =>
    have H := HC4.out
    clear HC4
    replace H := Option.bind_eq_some_iff.mp H
    obtain ⟨t489, A50, H⟩ := H
    replace H : (if t489 = true then (horariumlaw03_OctetCut.j0 k a0 a1 a2 (decide (a2 < 0))) else (horariumlaw03_OctetCut.j0 k a0 a1 a2 true)) = some r := H
    have A5 := Aside0.mk A50
    clear A50
    by_cases c6 : t489 = true
    · subst c6
      have H1 : (horariumlaw03_OctetCut.j0 k a0 a1 a2 (decide (a2 < 0))) = some r := by rw [if_pos rfl] at H; exact H
      clear H
      have H := H1
      clear H1
      have H' := Aside0.mk H
      clear H
      go_wp2_with (first | ((with_reducible refine gate_callee (f := 44) rfl ?_); refine goesL_ (some 16) rfl rfl Try.func44 (by kernel_rfl) rfl #[.slice none 0 0, .string a1, .slice none 0 0] rfl (by (try simp only [List.map_toArray, List.map_cons, List.map_nil]); first | done | rfl | (simp only [List.length_drop, List.length_take]; rfl)) ?_; (refine (horariumlaw03_short.calls _ _ ([] : List Int) a1 _ _ ([] : List Int) true _ ?side1 ?side2 ?side3 ?side4 A5.out).mono ?_); (case side1 => exact Kd.C_nil _ _); (case side2 => exact Nat.le_refl _); (case side3 => exact Kd.C_nil _ _); (case side4 => exact Nat.le_refl _); rintro e w' ⟨rfl, ⟨nd, rfl⟩⟩; refine ⟨_, rfl, ?_⟩))
      go_meet
      case rel => exact ⟨_, (decide (a2 < 0)), (by first | rfl | (simp; done) | (simp [*]; done)), H', ⟨by first | omega | exact Nat.le_refl _⟩, ⟨by repeat (first | (with_reducible first | exact HB.out | apply below_alloc | apply pw_below_drewN | apply below_drew1) | exact HB.out)⟩⟩
    · replace c6 := Bool.eq_false_iff.mpr c6
      subst c6
      have H1 : (horariumlaw03_OctetCut.j0 k a0 a1 a2 true) = some r := by rw [if_neg (show ¬ (false = true) by decide)] at H; exact H
      clear H
      have H := H1
      clear H1
      have H' := Aside0.mk H
      clear H
      go_wp2_with (first | ((with_reducible refine gate_callee (f := 44) rfl ?_); refine goesL_ (some 16) rfl rfl Try.func44 (by kernel_rfl) rfl #[.slice none 0 0, .string a1, .slice none 0 0] rfl (by (try simp only [List.map_toArray, List.map_cons, List.map_nil]); first | done | rfl | (simp only [List.length_drop, List.length_take]; rfl)) ?_; (refine (horariumlaw03_short.calls _ _ ([] : List Int) a1 _ _ ([] : List Int) false _ ?side1 ?side2 ?side3 ?side4 A5.out).mono ?_); (case side1 => exact Kd.C_nil _ _); (case side2 => exact Nat.le_refl _); (case side3 => exact Kd.C_nil _ _); (case side4 => exact Nat.le_refl _); rintro e w' ⟨rfl, ⟨nd, rfl⟩⟩; refine ⟨_, rfl, ?_⟩))
      go_meet
      case rel => exact ⟨_, (true), (by first | rfl | (simp; done) | (simp [*]; done)), H', ⟨by first | omega | exact Nat.le_refl _⟩, ⟨by repeat (first | (with_reducible first | exact HB.out | apply below_alloc | apply pw_below_drewN | apply below_drew1) | exact HB.out)⟩⟩
  case rest =>
    clear HC4
    try clear c2
    try clear p2
    try clear c4
    try clear c6
    obtain ⟨kq, x21_3, rfl, HA, HJ3, HB⟩ := hcut
    cases kq with
    | zero => exact absurd HA.out (by simp [horariumlaw03_OctetCut.j0])
    | succ kj3 =>
      have H := HA.out
      clear HA
      simp only [horariumlaw03_OctetCut.j0] at H
      by_cases c7 : x21_3 = true
      · subst c7
        have H1 : ((horariumlaw03_heads.f kj3).bind fun t490 => (some t490)) = some r := by rw [if_pos rfl] at H; exact H
        clear H
        have H := H1
        clear H1
        replace H := Option.bind_eq_some_iff.mp H
        obtain ⟨t490, A80, H⟩ := H
        replace H : (some t490) = some r := H
        have A8 := Aside0.mk A80
        clear A80
        obtain rfl := Option.some.inj H
        go_wp2_with (first | ((with_reducible refine gate_callee (f := 45) rfl ?_); refine goesL_ (some 22) rfl rfl Try.func45 (by kernel_rfl) rfl #[] rfl (by (try simp only [List.map_toArray, List.map_cons, List.map_nil]); first | done | rfl | (simp only [List.length_drop, List.length_take]; rfl)) ?_; (with_reducible refine (horariumlaw03_heads.calls kj3  t490 _ A8.out).mono ?_); rintro e w9 ⟨rfl, hb⟩; refine ⟨_, rfl, ?_⟩; have n0_ := Aside0.mk (below_step (by repeat (first | (with_reducible first | exact HB.out | apply below_alloc | apply pw_below_drewN | apply below_drew1) | exact HB.out)) hb); clear HB; have HB := n0_; clear n0_; (try clear hb); (try clear hb2); (try clear hk); (try clear hi)))
        go_ret
        exact ⟨by first | rfl | (simp [errW_none, errW_some] <;> rfl) | (simp [*, errW_none, errW_some] <;> rfl), by repeat (first | (with_reducible first | exact HB.out | apply below_alloc | apply pw_below_drewN | apply below_drew1) | exact HB.out)⟩
      · replace c7 := Bool.eq_false_iff.mpr c7
        subst c7
        have H1 : ((octet_Put.f kj3 a0).bind fun t491 => ((octet_PutText.f kj3 a1).bind fun t494 => (if a2 < (t491.length : Int) then (if 0 ≤ a2 then (if a2 ≤ (t491.length : Int) then ((octet_Take.f kj3 (t491.take (a2 : Int).toNat) 0).bind fun bt501 => (if bt501.2.2 = 4 then (horariumlaw03_OctetCut.j1 kj3 a2 t494) else (some false))) else (none)) else (none)) else (horariumlaw03_OctetCut.j1 kj3 a2 t494)))) = some r := by rw [if_neg (show ¬ (false = true) by decide)] at H; exact H
        clear H
        have H := H1
        clear H1
        replace H := Option.bind_eq_some_iff.mp H
        obtain ⟨t491, A100, H⟩ := H
        replace H : ((octet_PutText.f kj3 a1).bind fun t494 => (if a2 < (t491.length : Int) then (if 0 ≤ a2 then (if a2 ≤ (t491.length : Int) then ((octet_Take.f kj3 (t491.take (a2 : Int).toNat) 0).bind fun bt501 => (if bt501.2.2 = 4 then (horariumlaw03_OctetCut.j1 kj3 a2 t494) else (some false))) else (none)) else (none)) else (horariumlaw03_OctetCut.j1 kj3 a2 t494))) = some r := H
        have A10 := Aside0.mk A100
        clear A100
        replace H := Option.bind_eq_some_iff.mp H
        obtain ⟨t494, A110, H⟩ := H
        replace H : (if a2 < (t491.length : Int) then (if 0 ≤ a2 then (if a2 ≤ (t491.length : Int) then ((octet_Take.f kj3 (t491.take (a2 : Int).toNat) 0).bind fun bt501 => (if bt501.2.2 = 4 then (horariumlaw03_OctetCut.j1 kj3 a2 t494) else (some false))) else (none)) else (none)) else (horariumlaw03_OctetCut.j1 kj3 a2 t494)) = some r := H
        have A11 := Aside0.mk A110
        clear A110
        have HC12 := Aside0.mk H
        clear H
        go_upto_if 30 with (first | ((with_reducible refine gate_callee (f := 47) rfl ?_); refine goesL_ (some 24) rfl rfl Try.func47 (by kernel_rfl) rfl #[.int .u64 a0] rfl (by (try simp only [List.map_toArray, List.map_cons, List.map_nil]); first | done | rfl | (simp only [List.length_drop, List.length_take]; rfl)) ?_; (with_reducible refine (octet_Put.calls kj3 a0 t491 _ A10.out).mono ?_); rintro e w13 ⟨v492, rfl, ho0, hb⟩; refine ⟨_, rfl, ?_⟩; have n0_ := Aside0.mk (Kd.R_lower ho0 (below_size (by repeat (first | (with_reducible first | exact HB.out | apply below_alloc | apply pw_below_drewN | apply below_drew1) | exact HB.out)))); have n1_ := Aside0.mk (below_step (by repeat (first | (with_reducible first | exact HB.out | apply below_alloc | apply pw_below_drewN | apply below_drew1) | exact HB.out)) hb); clear HB; have HO493 := n0_; have HB := n1_; clear n0_ n1_; (try clear hb); (try clear hb2); (try clear hk); (try clear hi); (try clear ho0)) | ((with_reducible refine gate_callee (f := 51) rfl ?_); refine goesL_ (some 26) rfl rfl Try.func51 (by kernel_rfl) rfl #[.string a1] rfl (by (try simp only [List.map_toArray, List.map_cons, List.map_nil]); first | done | rfl | (simp only [List.length_drop, List.length_take]; rfl)) ?_; (with_reducible refine (octet_PutText.calls kj3 a1 t494 _ A11.out).mono ?_); rintro e w14 ⟨v495, rfl, ho0, hb⟩; refine ⟨_, rfl, ?_⟩; have n0_ := Aside0.mk (Kd.R_elder' (by (with_reducible repeat (first | apply Kd.R_alloc | apply Kd.R_drewN | apply Kd.R_drew)); exact HO493.out) (Kd.R_base ho0) hb); have n1_ := Aside0.mk (Kd.R_lower (Kd.R_new' ho0 (Kd.R_lt (by (with_reducible repeat (first | apply Kd.R_alloc | apply Kd.R_drewN | apply Kd.R_drew)); exact HO493.out))) (below_size (by repeat (first | (with_reducible first | exact HB.out | apply below_alloc | apply pw_below_drewN | apply below_drew1) | exact HB.out)))); have n2_ := Aside0.mk (below_step (by repeat (first | (with_reducible first | exact HB.out | apply below_alloc | apply pw_below_drewN | apply below_drew1) | exact HB.out)) hb); clear HO493; clear HB; have HO493 := n0_; have HO496 := n1_; have HB := n2_; clear n0_ n1_ n2_; (try clear hb); (try clear hb2); (try clear hk); (try clear hi); (try clear ho0); obtain ⟨Ao15, co15, eo15⟩ := Kd.R_slice HO493.out; subst eo15))
        (try simp only [Act.put, List.setIfInBounds_toArray, List.set_cons_zero, List.set_cons_succ])
        go_cut [] (fun wc => ∃ (kq : Nat), Aside0 (horariumlaw03_OctetCut.j1 kq a2 t494 = some r) ∧ Aside0 (kq ≤ kj3) ∧ Aside0 (Kd.R (Kd.int .u8) 5 wc w.heap.size (fun _ => True) v495 t494) ∧ Aside0 (Below w.heap.size w wc))
        case first =>
          have H := HC12.out
          clear HC12
          by_cases c16 : a2 < (t491.length : Int)
          · rw [if_pos c16] at H
            have c16b0 : decide (a2 < (t491.length : Int)) = true := decide_eq_true c16
            clear c16
            (first | rw [c16b0] | (simp only [i64_w, i32_w]; rw [c16b0]) | skip)
            by_cases c17 : 0 ≤ a2
            · rw [if_pos c17] at H
              have c17b0 := eq_true c17
              have c17b1 : decide (0 ≤ a2) = true := decide_eq_true c17
              clear c17
              by_cases c18 : a2 ≤ (t491.length : Int)
              · rw [if_pos c18] at H
                have c18b0 := eq_true c18
                have c18b1 : decide (a2 ≤ (t491.length : Int)) = true := decide_eq_true c18
                clear c18
                obtain ⟨y497, hy497⟩ : ∃ y_ : List Int, y_ = (t491.take (a2 : Int).toNat) := ⟨_, rfl⟩
                replace H : ((octet_Take.f kj3 y497 0).bind fun bt501 => (if bt501.2.2 = 4 then (horariumlaw03_OctetCut.j1 kj3 a2 t494) else (some false))) = some r := by first | (rw [hy497]; with_reducible exact H) | (have H2_ := (Option.bind_some _ _).symm.trans H; rw [hy497]; with_reducible exact H2_) | (have H2_ := (Option.bind_some _ _).symm.trans H; with_reducible exact H2_) | with_reducible exact H | (rw [hy497]; exact H) | exact H
                have Ny497 := Aside0.mk hy497
                clear hy497
                replace H := Option.bind_eq_some_iff.mp H
                obtain ⟨⟨t501, t502, t503⟩, A190, H⟩ := H
                replace H : (if t503 = 4 then (horariumlaw03_OctetCut.j1 kj3 a2 t494) else (some false)) = some r := H
                have A19 := Aside0.mk A190
                clear A190
                by_cases c20 : t503 = 4
                · rw [if_pos c20] at H
                  have c20b0 : (t503 == 4) = true := beq_iff_eq.mpr c20
                  have c20b1 : (t503 != 4) = false := bne_eq_false_iff_eq.mpr c20
                  clear c20
                  have H' := Aside0.mk H
                  clear H
                  have q21 : (a2 : Int) ≤ ((t491.length : Int) : Int) := of_decide_eq_true (by first | (with_reducible assumption) | assumption)
                  obtain ⟨i021, hi021, _, hsz21, _⟩ := info_parts info5
                  have hroom21 : t491.length ≤ co15 := (Kd.R_reads' HO493.out).2.1
                  have hC21 : Kd.C (Kd.int .u8) _ Ao15 t491.length t491 := (Kd.R_reads' HO493.out).2.2
                  have hcut21 := cut_to (P := Try.prog) 44 5 .i64 Try.underlying44 hi021 Ao15 t491.length co15 a2 (of_decide_eq_true (by first | (with_reducible assumption) | assumption)) q21 hroom21
                  have hr21 := Kd.C_take (m := (a2 : Int).toNat) hC21 (by omega)
                  have hy21 : y497.length = (a2 : Int).toNat := (by rw [Ny497.out, List.length_take]; omega)
                  rw [← Ny497.out] at hr21
                  rw [← hy21] at hcut21
                  have HR500 := Aside0.mk hr21
                  have HC500 := Aside0.mk (show y497.length ≤ co15 from by omega)
                  clear hr21 hC21 hroom21 hi021 hsz21
                  have KY21 := Aside0.mk hy21
                  clear hy21
                  have KL21 := Aside0.mk (show (a2 : Int).toNat ≤ t491.length from by omega)
                  replace q21 := eq_true q21
                  go_wp2_with (first | ((with_reducible refine gate_callee (f := 55) rfl ?_); refine goesL_ (some 35) rfl rfl Try.func55 (by kernel_rfl) rfl #[.slice Ao15 y497.length co15, .int .i64 0] rfl (by (try simp only [List.map_toArray, List.map_cons, List.map_nil]); first | done | rfl | (simp only [List.length_drop, List.length_take]; rfl)) ?_; (with_reducible refine (octet_Take.calls kj3 _ _ y497 0 t501 t502 t503 _ ?side1 ?side2 A19.out).mono ?_); (case side1 => repeat (first | exact (by repeat (first | (with_reducible exact HR500.out) | (with_reducible refine Kd.C_alloc ?_ _) | (with_reducible refine Kd.C_drewN ?_ _) | (with_reducible refine Kd.C_drew ?_) | exact HR500.out)) | (with_reducible refine Kd.C_alloc ?_ _) | (with_reducible refine Kd.C_drewN ?_ _) | (with_reducible refine Kd.C_drew ?_))); (case side2 => exact HC500.out); rintro e w' ⟨rfl, ⟨nd, rfl⟩⟩; refine ⟨_, rfl, ?_⟩))
                  go_meet
                  case rel => exact ⟨_, H', ⟨by have := HJ3.out; first | omega | exact Nat.le_refl _⟩, ⟨by (with_reducible repeat (first | apply Kd.R_alloc | apply Kd.R_drewN | apply Kd.R_drew)); exact Kd.R_mono HO496.out (fun _ hk => trivial)⟩, ⟨by repeat (first | (with_reducible first | exact HB.out | apply below_alloc | apply pw_below_drewN | apply below_drew1) | exact HB.out)⟩⟩
                · rw [if_neg c20] at H
                  have c20b0 : (t503 == 4) = false := beq_eq_false_iff_ne.mpr c20
                  have c20b1 : (t503 != 4) = true := bne_iff_ne.mpr c20
                  obtain rfl := Option.some.inj H
                  have q22 : (a2 : Int) ≤ ((t491.length : Int) : Int) := of_decide_eq_true (by first | (with_reducible assumption) | assumption)
                  obtain ⟨i022, hi022, _, hsz22, _⟩ := info_parts info5
                  have hroom22 : t491.length ≤ co15 := (Kd.R_reads' HO493.out).2.1
                  have hC22 : Kd.C (Kd.int .u8) _ Ao15 t491.length t491 := (Kd.R_reads' HO493.out).2.2
                  have hcut22 := cut_to (P := Try.prog) 44 5 .i64 Try.underlying44 hi022 Ao15 t491.length co15 a2 (of_decide_eq_true (by first | (with_reducible assumption) | assumption)) q22 hroom22
                  have hr22 := Kd.C_take (m := (a2 : Int).toNat) hC22 (by omega)
                  have hy22 : y497.length = (a2 : Int).toNat := (by rw [Ny497.out, List.length_take]; omega)
                  rw [← Ny497.out] at hr22
                  rw [← hy22] at hcut22
                  have HR500 := Aside0.mk hr22
                  have HC500 := Aside0.mk (show y497.length ≤ co15 from by omega)
                  clear hr22 hC22 hroom22 hi022 hsz22
                  have KY22 := Aside0.mk hy22
                  clear hy22
                  have KL22 := Aside0.mk (show (a2 : Int).toNat ≤ t491.length from by omega)
                  replace q22 := eq_true q22
                  go_wp2_with (first | ((with_reducible refine gate_callee (f := 55) rfl ?_); refine goesL_ (some 35) rfl rfl Try.func55 (by kernel_rfl) rfl #[.slice Ao15 y497.length co15, .int .i64 0] rfl (by (try simp only [List.map_toArray, List.map_cons, List.map_nil]); first | done | rfl | (simp only [List.length_drop, List.length_take]; rfl)) ?_; (with_reducible refine (octet_Take.calls kj3 _ _ y497 0 t501 t502 t503 _ ?side1 ?side2 A19.out).mono ?_); (case side1 => repeat (first | exact (by repeat (first | (with_reducible exact HR500.out) | (with_reducible refine Kd.C_alloc ?_ _) | (with_reducible refine Kd.C_drewN ?_ _) | (with_reducible refine Kd.C_drew ?_) | exact HR500.out)) | (with_reducible refine Kd.C_alloc ?_ _) | (with_reducible refine Kd.C_drewN ?_ _) | (with_reducible refine Kd.C_drew ?_))); (case side2 => exact HC500.out); rintro e w' ⟨rfl, ⟨nd, rfl⟩⟩; refine ⟨_, rfl, ?_⟩))
                  go_ret
                  exact ⟨by first | rfl | (simp [errW_none, errW_some] <;> rfl) | (simp [*, errW_none, errW_some] <;> rfl), by repeat (first | (with_reducible first | exact HB.out | apply below_alloc | apply pw_below_drewN | apply below_drew1) | exact HB.out)⟩
              · rw [if_neg c18] at H
                exact absurd H (by simp)
            · rw [if_neg c17] at H
              exact absurd H (by simp)
          · rw [if_neg c16] at H
            have c16b0 : decide (a2 < (t491.length : Int)) = false := decide_eq_false c16
            clear c16
            (first | rw [c16b0] | (simp only [i64_w, i32_w]; rw [c16b0]) | skip)
            have H' := Aside0.mk H
            clear H
            go_wp2
            go_meet
            case rel => exact ⟨_, H', ⟨by have := HJ3.out; first | omega | exact Nat.le_refl _⟩, ⟨by (with_reducible repeat (first | apply Kd.R_alloc | apply Kd.R_drewN | apply Kd.R_drew)); exact Kd.R_mono HO496.out (fun _ hk => trivial)⟩, ⟨by repeat (first | (with_reducible first | exact HB.out | apply below_alloc | apply pw_below_drewN | apply below_drew1) | exact HB.out)⟩⟩
        case rest =>
          clear HC12
          try clear c1
          try clear c2
          try clear p2
          try clear q2
          try clear c4
          try clear c5
          try clear c6
          try clear c7
          try clear c16
          try clear c16b0
          try clear c17
          try clear c17b0
          try clear c17b1
          try clear c18
          try clear c18b0
          try clear c18b1
          try clear c20
          try clear c20b0
          try clear c20b1
          try clear c21
          try clear q21
          try clear q22
          try clear p2
          try clear q21
          try clear q22
          obtain ⟨kq, HA, HJ11, HO_8, HB⟩ := hcut
          cases kq with
          | zero => exact absurd HA.out (by simp [horariumlaw03_OctetCut.j1])
          | succ kj11 =>
            have H := HA.out
            clear HA
            simp only [horariumlaw03_OctetCut.j1] at H
            by_cases c23 : a2 < (t494.length : Int)
            · rw [if_pos c23] at H
              have c23b0 : decide (a2 < (t494.length : Int)) = true := decide_eq_true c23
              clear c23
              by_cases c24 : 0 ≤ a2
              · rw [if_pos c24] at H
                have c24b0 := eq_true c24
                have c24b1 : decide (0 ≤ a2) = true := decide_eq_true c24
                clear c24
                by_cases c25 : a2 ≤ (t494.length : Int)
                · rw [if_pos c25] at H
                  have c25b0 := eq_true c25
                  have c25b1 : decide (a2 ≤ (t494.length : Int)) = true := decide_eq_true c25
                  clear c25
                  obtain ⟨y504, hy504⟩ : ∃ y_ : List Int, y_ = (t494.take (a2 : Int).toNat) := ⟨_, rfl⟩
                  replace H : ((octet_TakeText.f kj11 y504 0 1000).bind fun bt508 => (if bt508.2.2 = 4 then ((horariumlaw03_heads.f kj11).bind fun t511 => (some t511)) else (some false))) = some r := by first | (rw [hy504]; with_reducible exact H) | (have H2_ := (Option.bind_some _ _).symm.trans H; rw [hy504]; with_reducible exact H2_) | (have H2_ := (Option.bind_some _ _).symm.trans H; with_reducible exact H2_) | with_reducible exact H | (rw [hy504]; exact H) | exact H
                  have Ny504 := Aside0.mk hy504
                  clear hy504
                  replace H := Option.bind_eq_some_iff.mp H
                  obtain ⟨⟨t508, t509, t510⟩, A260, H⟩ := H
                  replace H : (if t510 = 4 then ((horariumlaw03_heads.f kj11).bind fun t511 => (some t511)) else (some false)) = some r := H
                  have A26 := Aside0.mk A260
                  clear A260
                  by_cases c27 : t510 = 4
                  · rw [if_pos c27] at H
                    have c27b0 : (t510 == 4) = true := beq_iff_eq.mpr c27
                    have c27b1 : (t510 != 4) = false := bne_eq_false_iff_eq.mpr c27
                    clear c27
                    replace H := Option.bind_eq_some_iff.mp H
                    obtain ⟨t511, A280, H⟩ := H
                    replace H : (some t511) = some r := H
                    have A28 := Aside0.mk A280
                    clear A280
                    obtain rfl := Option.some.inj H
                    obtain ⟨Ao29, co29, eo29⟩ := Kd.R_slice HO_8.out
                    subst eo29
                    have q30 : (a2 : Int) ≤ ((t494.length : Int) : Int) := of_decide_eq_true (by first | (with_reducible assumption) | assumption)
                    obtain ⟨i030, hi030, _, hsz30, _⟩ := info_parts info5
                    have hroom30 : t494.length ≤ co29 := (Kd.R_reads' HO_8.out).2.1
                    have hC30 : Kd.C (Kd.int .u8) _ Ao29 t494.length t494 := (Kd.R_reads' HO_8.out).2.2
                    have hcut30 := cut_to (P := Try.prog) 44 5 .i64 Try.underlying44 hi030 Ao29 t494.length co29 a2 (of_decide_eq_true (by first | (with_reducible assumption) | assumption)) q30 hroom30
                    have hr30 := Kd.C_take (m := (a2 : Int).toNat) hC30 (by omega)
                    have hy30 : y504.length = (a2 : Int).toNat := (by rw [Ny504.out, List.length_take]; omega)
                    rw [← Ny504.out] at hr30
                    rw [← hy30] at hcut30
                    have HR507 := Aside0.mk hr30
                    have HC507 := Aside0.mk (show y504.length ≤ co29 from by omega)
                    clear hr30 hC30 hroom30 hi030 hsz30
                    have KY30 := Aside0.mk hy30
                    clear hy30
                    have KL30 := Aside0.mk (show (a2 : Int).toNat ≤ t494.length from by omega)
                    replace q30 := eq_true q30
                    go_wp2_with (first | ((with_reducible refine gate_callee (f := 97) rfl ?_); refine goesL_ (some 49) rfl rfl Try.func97 (by kernel_rfl) rfl #[.slice Ao29 y504.length co29, .int .i64 0, .int .i64 1000] rfl (by (try simp only [List.map_toArray, List.map_cons, List.map_nil]); first | done | rfl | (simp only [List.length_drop, List.length_take]; rfl)) ?_; (with_reducible refine (octet_TakeText.calls kj11 _ _ y504 0 1000 t508 t509 t510 _ ?side1 ?side2 A26.out).mono ?_); (case side1 => repeat (first | exact (by repeat (first | (with_reducible exact HR507.out) | (with_reducible refine Kd.C_alloc ?_ _) | (with_reducible refine Kd.C_drewN ?_ _) | (with_reducible refine Kd.C_drew ?_) | exact HR507.out)) | (with_reducible refine Kd.C_alloc ?_ _) | (with_reducible refine Kd.C_drewN ?_ _) | (with_reducible refine Kd.C_drew ?_))); (case side2 => exact HC507.out); rintro e w' ⟨rfl, ⟨nd, rfl⟩⟩; refine ⟨_, rfl, ?_⟩) | ((with_reducible refine gate_callee (f := 45) rfl ?_); refine goesL_ (some 55) rfl rfl Try.func45 (by kernel_rfl) rfl #[] rfl (by (try simp only [List.map_toArray, List.map_cons, List.map_nil]); first | done | rfl | (simp only [List.length_drop, List.length_take]; rfl)) ?_; (with_reducible refine (horariumlaw03_heads.calls kj11  t511 _ A28.out).mono ?_); rintro e w31 ⟨rfl, hb⟩; refine ⟨_, rfl, ?_⟩; have n0_ := Aside0.mk (Kd.R_below (by (with_reducible repeat (first | apply Kd.R_alloc | apply Kd.R_drewN | apply Kd.R_drew)); exact HO_8.out) hb); have n1_ := Aside0.mk (Kd.C_below (by repeat (first | (with_reducible exact HR507.out) | (with_reducible refine Kd.C_alloc ?_ _) | (with_reducible refine Kd.C_drewN ?_ _) | (with_reducible refine Kd.C_drew ?_) | exact HR507.out)) hb); have n2_ := Aside0.mk (below_step (by repeat (first | (with_reducible first | exact HB.out | apply below_alloc | apply pw_below_drewN | apply below_drew1) | exact HB.out)) hb); clear HO_8; clear HR507; clear HB; have HO_8 := n0_; have HR507 := n1_; have HB := n2_; clear n0_ n1_ n2_; (try clear hb); (try clear hb2); (try clear hk); (try clear hi)))
                    go_ret
                    exact ⟨by first | rfl | (simp [errW_none, errW_some] <;> rfl) | (simp [*, errW_none, errW_some] <;> rfl), by repeat (first | (with_reducible first | exact HB.out | apply below_alloc | apply pw_below_drewN | apply below_drew1) | exact HB.out)⟩
                  · rw [if_neg c27] at H
                    have c27b0 : (t510 == 4) = false := beq_eq_false_iff_ne.mpr c27
                    have c27b1 : (t510 != 4) = true := bne_iff_ne.mpr c27
                    obtain rfl := Option.some.inj H
                    obtain ⟨Ao32, co32, eo32⟩ := Kd.R_slice HO_8.out
                    subst eo32
                    have q33 : (a2 : Int) ≤ ((t494.length : Int) : Int) := of_decide_eq_true (by first | (with_reducible assumption) | assumption)
                    obtain ⟨i033, hi033, _, hsz33, _⟩ := info_parts info5
                    have hroom33 : t494.length ≤ co32 := (Kd.R_reads' HO_8.out).2.1
                    have hC33 : Kd.C (Kd.int .u8) _ Ao32 t494.length t494 := (Kd.R_reads' HO_8.out).2.2
                    have hcut33 := cut_to (P := Try.prog) 44 5 .i64 Try.underlying44 hi033 Ao32 t494.length co32 a2 (of_decide_eq_true (by first | (with_reducible assumption) | assumption)) q33 hroom33
                    have hr33 := Kd.C_take (m := (a2 : Int).toNat) hC33 (by omega)
                    have hy33 : y504.length = (a2 : Int).toNat := (by rw [Ny504.out, List.length_take]; omega)
                    rw [← Ny504.out] at hr33
                    rw [← hy33] at hcut33
                    have HR507 := Aside0.mk hr33
                    have HC507 := Aside0.mk (show y504.length ≤ co32 from by omega)
                    clear hr33 hC33 hroom33 hi033 hsz33
                    have KY33 := Aside0.mk hy33
                    clear hy33
                    have KL33 := Aside0.mk (show (a2 : Int).toNat ≤ t494.length from by omega)
                    replace q33 := eq_true q33
                    go_wp2_with (first | ((with_reducible refine gate_callee (f := 97) rfl ?_); refine goesL_ (some 49) rfl rfl Try.func97 (by kernel_rfl) rfl #[.slice Ao32 y504.length co32, .int .i64 0, .int .i64 1000] rfl (by (try simp only [List.map_toArray, List.map_cons, List.map_nil]); first | done | rfl | (simp only [List.length_drop, List.length_take]; rfl)) ?_; (with_reducible refine (octet_TakeText.calls kj11 _ _ y504 0 1000 t508 t509 t510 _ ?side1 ?side2 A26.out).mono ?_); (case side1 => repeat (first | exact (by repeat (first | (with_reducible exact HR507.out) | (with_reducible refine Kd.C_alloc ?_ _) | (with_reducible refine Kd.C_drewN ?_ _) | (with_reducible refine Kd.C_drew ?_) | exact HR507.out)) | (with_reducible refine Kd.C_alloc ?_ _) | (with_reducible refine Kd.C_drewN ?_ _) | (with_reducible refine Kd.C_drew ?_))); (case side2 => exact HC507.out); rintro e w' ⟨rfl, ⟨nd, rfl⟩⟩; refine ⟨_, rfl, ?_⟩))
                    go_ret
                    exact ⟨by first | rfl | (simp [errW_none, errW_some] <;> rfl) | (simp [*, errW_none, errW_some] <;> rfl), by repeat (first | (with_reducible first | exact HB.out | apply below_alloc | apply pw_below_drewN | apply below_drew1) | exact HB.out)⟩
                · rw [if_neg c25] at H
                  exact absurd H (by simp)
              · rw [if_neg c24] at H
                exact absurd H (by simp)
            · rw [if_neg c23] at H
              have c23b0 : decide (a2 < (t494.length : Int)) = false := decide_eq_false c23
              clear c23
              replace H := Option.bind_eq_some_iff.mp H
              obtain ⟨t512, A340, H⟩ := H
              replace H : (some t512) = some r := H
              have A34 := Aside0.mk A340
              clear A340
              obtain rfl := Option.some.inj H
              obtain ⟨Ao35, co35, eo35⟩ := Kd.R_slice HO_8.out
              subst eo35
              go_wp2_with (first | ((with_reducible refine gate_callee (f := 45) rfl ?_); refine goesL_ (some 55) rfl rfl Try.func45 (by kernel_rfl) rfl #[] rfl (by (try simp only [List.map_toArray, List.map_cons, List.map_nil]); first | done | rfl | (simp only [List.length_drop, List.length_take]; rfl)) ?_; (with_reducible refine (horariumlaw03_heads.calls kj11  t512 _ A34.out).mono ?_); rintro e w36 ⟨rfl, hb⟩; refine ⟨_, rfl, ?_⟩; have n0_ := Aside0.mk (Kd.R_below (by (with_reducible repeat (first | apply Kd.R_alloc | apply Kd.R_drewN | apply Kd.R_drew)); exact HO_8.out) hb); have n1_ := Aside0.mk (below_step (by repeat (first | (with_reducible first | exact HB.out | apply below_alloc | apply pw_below_drewN | apply below_drew1) | exact HB.out)) hb); clear HO_8; clear HB; have HO_8 := n0_; have HB := n1_; clear n0_ n1_; (try clear hb); (try clear hb2); (try clear hk); (try clear hi)))
              go_ret
              exact ⟨by first | rfl | (simp [errW_none, errW_some] <;> rfl) | (simp [*, errW_none, errW_some] <;> rfl), by repeat (first | (with_reducible first | exact HB.out | apply below_alloc | apply pw_below_drewN | apply below_drew1) | exact HB.out)⟩

/-- THE ONE PURE STATEMENT of horariumlaw03_OctetCut: yours. -/
def horariumlaw03_OctetCut.Pure : Prop := ∀ (a0 : Int) (a1 : ByteArray) (a2 : Int), (Lit.int .u64 a0).wf = true → a1.size ≤ 140737488351232 → (Lit.int .i64 a2).wf = true → ∃ k, horariumlaw03_OctetCut.f k a0 a1 a2 = some true
theorem horariumlaw03_OctetCut.walk (P : horariumlaw03_OctetCut.Pure) (a0 : Int) (a1 : ByteArray) (a2 : Int) (w : World) (w0 : (Lit.int .u64 a0).wf = true) (w1 : a1.size ≤ 140737488351232) (w2 : (Lit.int .i64 a2).wf = true) :
    Calls Try.prog 21 #[.int .u64 a0, .string a1, .int .i64 a2] w fun e w' => e = .returned (.bool true) ∧ Below w.heap.size w w' := by
  obtain ⟨k, h⟩ := P a0 a1 a2 w0 w1 w2
  refine (horariumlaw03_OctetCut.calls k a0 a1 a2 true w h).mono ?_
  rintro e w' ⟨rfl, hd⟩
  exact ⟨rfl, hd⟩

end Go.Proofs.Ytccjdefhieilpaa.PB
