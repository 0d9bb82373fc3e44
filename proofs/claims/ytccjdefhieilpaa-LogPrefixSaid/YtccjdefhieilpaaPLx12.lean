-- Written by a program of this session (wip/tools/patch_print.py over the print of the kit)
import Derived.Test.YtccjdefhieilpaaPLx0
import Derived.Test.YtccjdefhieilpaaPLx1
import Derived.Test.YtccjdefhieilpaaPLx2
import Derived.Test.YtccjdefhieilpaaPLx3
import Derived.Test.YtccjdefhieilpaaPLx4
namespace Go.Proofs.Ytccjdefhieilpaa.PL
open Go.RowKit Go.Proofs.YtccjdefhieilpaaW.PrintWords Go.Proofs.YtccjdefhieilpaaW.PrintLast Go.Proofs.YtccjdefhieilpaaW.PrintMore Go.Proofs.Ytccjdefhieilpaa.PB
attribute [local go_sem] max2_int min2_int max_two min_two max_three min_three max_four min_four   -- for this text's walks alone
set_option linter.unusedVariables false
set_option linter.unusedSimpArgs false

/-! ### horariumlaw47_LogPrefix: function 22 -/
mutual
def horariumlaw47_LogPrefix.j0 : Nat → List (S68) → Int → List Int → Bool → Option (Bool)
  | 0, _, _, _, _ => none
  | k + 1, x0, x1, x2, x23 => if x23 = true then ((horariumlaw47_heads.f k).bind fun t475 => (some t475)) else ((log_Write.f k x0).bind fun bt476 => (if bt476.2 = 0 then ((some (([] : List Int) : List Int)).bind fun y481 => (if y481.length + bt476.1.length < 140737488355328 then ((some (y481 ++ bt476.1 : List Int)).bind fun y484 => (if y484.length + x2.length < 140737488355328 then ((log_Read.f k (y484 ++ x2)).bind fun bt490 => (if (bt490.1.length : Int) < (x0.length : Int) then (horariumlaw47_LogPrefix.j1 k x0 x1 bt476.1 true) else (if 0 ≤ (x0.length : Int) then (if (x0.length : Int) ≤ (bt490.1.length : Int) then ((horariumref47_Same.f k (bt490.1.take ((x0.length : Int) : Int).toNat) x0).bind fun t498 => (if t498 = true then (if bt490.2 < (bt476.1.length : Int) then (horariumlaw47_LogPrefix.j1 k x0 x1 bt476.1 true) else (if (bt490.1.length : Int) = (x0.length : Int) then (horariumlaw47_LogPrefix.j1 k x0 x1 bt476.1 (bt490.2 != (bt476.1.length : Int))) else (horariumlaw47_LogPrefix.j1 k x0 x1 bt476.1 false))) else (horariumlaw47_LogPrefix.j1 k x0 x1 bt476.1 true))) else (none)) else (none)))) else (none))) else (none))) else (if bt476.2 = 2 then (if (bt476.1.length : Int) = 0 then ((horariumlaw47_heads.f k).bind fun t480 => (some t480)) else (some false)) else (some false))))
def horariumlaw47_LogPrefix.j1 : Nat → List (S68) → Int → List Int → Bool → Option (Bool)
  | 0, _, _, _, _ => none
  | k + 1, x0, x1, x7, x83 => if x83 = true then (some false) else (if x1 < 0 then (horariumlaw47_LogPrefix.j2 k x0 x1 x7 true) else (horariumlaw47_LogPrefix.j2 k x0 x1 x7 (decide (x1 > (x7.length : Int)))))
def horariumlaw47_LogPrefix.j2 : Nat → List (S68) → Int → List Int → Bool → Option (Bool)
  | 0, _, _, _, _ => none
  | k + 1, x0, x1, x7, x91 => if x91 = true then ((horariumlaw47_heads.f k).bind fun t499 => (some t499)) else (if 0 ≤ x1 then (if x1 ≤ (x7.length : Int) then ((log_Read.f k (x7.take (x1 : Int).toNat)).bind fun bt504 => (horariumlaw47_LogPrefix.l0 k x0 x1 bt504.1 bt504.2 0 0 0)) else (none)) else (none))
def horariumlaw47_LogPrefix.l0 : Nat → List (S68) → Int → List (S68) → Int → Int → Int → Int → Option (Bool)
  | 0, _, _, _, _, _, _, _ => none
  | k + 1, x0, x1, x11, x12, x13, x14, x15 => if x15 < (x0.length : Int) then (if 0 ≤ x15 then ((log_Size.f k ((rd_T68 x0 x15).f0) ((rd_T68 x0 x15).f1)).bind fun t509 => (if (wrap64 (x14 + t509)) ≤ x1 then ((log_Size.f k ((rd_T68 x0 x15).f0) ((rd_T68 x0 x15).f1)).bind fun t511 => (horariumlaw47_LogPrefix.l0 k x0 x1 x11 x12 (wrap64 (x13 + 1)) (wrap64 (x14 + t511)) (wrap64 (x15 + 1)))) else (if (x11.length : Int) = x13 then (if 0 ≤ x13 then (if x13 ≤ (x0.length : Int) then ((horariumref47_Same.f k x11 (x0.take (x13 : Int).toNat)).bind fun t516 => (if t516 = true then (if x12 = x14 then ((horariumlaw47_heads.f k).bind fun t517 => (some t517)) else (some false)) else (some false))) else (none)) else (none)) else (some false)))) else (none)) else (if (x11.length : Int) = x13 then (if 0 ≤ x13 then (if x13 ≤ (x0.length : Int) then ((horariumref47_Same.f k x11 (x0.take (x13 : Int).toNat)).bind fun t522 => (if t522 = true then (if x12 = x14 then ((horariumlaw47_heads.f k).bind fun t523 => (some t523)) else (some false)) else (some false))) else (none)) else (none)) else (some false))
end
def horariumlaw47_LogPrefix.f (k : Nat) (l0 : List (S68)) (a1 : Int) (l2 : List Int) : Option (Bool) := (horariumlaw47_few.f k l0).bind fun t474 => (if t474 = true then (horariumlaw47_LogPrefix.j0 k l0 a1 l2 (decide ((l2.length : Int) > 3000))) else (horariumlaw47_LogPrefix.j0 k l0 a1 l2 true))
theorem horariumlaw47_LogPrefix.mono_l : ∀ k, (∀ y0 y1 y2 y3, LeO (horariumlaw47_LogPrefix.j0 k y0 y1 y2 y3) (horariumlaw47_LogPrefix.j0 (k + 1) y0 y1 y2 y3)) ∧ (∀ y0 y1 y2 y3, LeO (horariumlaw47_LogPrefix.j1 k y0 y1 y2 y3) (horariumlaw47_LogPrefix.j1 (k + 1) y0 y1 y2 y3)) ∧ (∀ y0 y1 y2 y3, LeO (horariumlaw47_LogPrefix.j2 k y0 y1 y2 y3) (horariumlaw47_LogPrefix.j2 (k + 1) y0 y1 y2 y3)) ∧ (∀ y0 y1 y2 y3 y4 y5 y6, LeO (horariumlaw47_LogPrefix.l0 k y0 y1 y2 y3 y4 y5 y6) (horariumlaw47_LogPrefix.l0 (k + 1) y0 y1 y2 y3 y4 y5 y6))
  | 0 => ⟨fun _ _ _ _ r h => by simp [horariumlaw47_LogPrefix.j0] at h, fun _ _ _ _ r h => by simp [horariumlaw47_LogPrefix.j1] at h, fun _ _ _ _ r h => by simp [horariumlaw47_LogPrefix.j2] at h, fun _ _ _ _ _ _ _ r h => by simp [horariumlaw47_LogPrefix.l0] at h⟩
  | k + 1 => by
    obtain ⟨ih0, ih1, ih2, ih3⟩ := horariumlaw47_LogPrefix.mono_l k
    refine ⟨?_, ?_, ?_, ?_⟩
    · intro y0 y1 y2 y3
      unfold horariumlaw47_LogPrefix.j0
      repeat' first
      | (with_reducible exact ih0 _ _ _ _)
      | (with_reducible exact ih1 _ _ _ _)
      | (with_reducible exact ih2 _ _ _ _)
      | (with_reducible exact ih3 _ _ _ _ _ _ _)
      | (with_reducible exact horariumlaw47_few.mono _ _)
      | (with_reducible exact horariumlaw47_heads.mono _)
      | (with_reducible exact horariumref47_Same.mono _ _ _)
      | (with_reducible exact log_Read.mono _ _)
      | (with_reducible exact log_Size.mono _ _ _)
      | (with_reducible exact log_Write.mono _ _)
      | (with_reducible exact LeO.refl _)
      | (with_reducible exact LeO.none _)
      | (with_reducible refine LeO.ite ?_ ?_)
      | (with_reducible refine LeO.bind ?_ (fun _ => ?_))
      | exact ih0 _ _ _ _
      | exact ih1 _ _ _ _
      | exact ih2 _ _ _ _
      | exact ih3 _ _ _ _ _ _ _
      | exact horariumlaw47_few.mono _ _
      | exact horariumlaw47_heads.mono _
      | exact horariumref47_Same.mono _ _ _
      | exact log_Read.mono _ _
      | exact log_Size.mono _ _ _
      | exact log_Write.mono _ _
      | exact LeO.none _
      | refine LeO.ite ?_ ?_
      | refine LeO.bind ?_ (fun _ => ?_)
    · intro y0 y1 y2 y3
      unfold horariumlaw47_LogPrefix.j1
      repeat' first
      | (with_reducible exact ih0 _ _ _ _)
      | (with_reducible exact ih1 _ _ _ _)
      | (with_reducible exact ih2 _ _ _ _)
      | (with_reducible exact ih3 _ _ _ _ _ _ _)
      | (with_reducible exact horariumlaw47_few.mono _ _)
      | (with_reducible exact horariumlaw47_heads.mono _)
      | (with_reducible exact horariumref47_Same.mono _ _ _)
      | (with_reducible exact log_Read.mono _ _)
      | (with_reducible exact log_Size.mono _ _ _)
      | (with_reducible exact log_Write.mono _ _)
      | (with_reducible exact LeO.refl _)
      | (with_reducible exact LeO.none _)
      | (with_reducible refine LeO.ite ?_ ?_)
      | (with_reducible refine LeO.bind ?_ (fun _ => ?_))
      | exact ih0 _ _ _ _
      | exact ih1 _ _ _ _
      | exact ih2 _ _ _ _
      | exact ih3 _ _ _ _ _ _ _
      | exact horariumlaw47_few.mono _ _
      | exact horariumlaw47_heads.mono _
      | exact horariumref47_Same.mono _ _ _
      | exact log_Read.mono _ _
      | exact log_Size.mono _ _ _
      | exact log_Write.mono _ _
      | exact LeO.none _
      | refine LeO.ite ?_ ?_
      | refine LeO.bind ?_ (fun _ => ?_)
    · intro y0 y1 y2 y3
      unfold horariumlaw47_LogPrefix.j2
      repeat' first
      | (with_reducible exact ih0 _ _ _ _)
      | (with_reducible exact ih1 _ _ _ _)
      | (with_reducible exact ih2 _ _ _ _)
      | (with_reducible exact ih3 _ _ _ _ _ _ _)
      | (with_reducible exact horariumlaw47_few.mono _ _)
      | (with_reducible exact horariumlaw47_heads.mono _)
      | (with_reducible exact horariumref47_Same.mono _ _ _)
      | (with_reducible exact log_Read.mono _ _)
      | (with_reducible exact log_Size.mono _ _ _)
      | (with_reducible exact log_Write.mono _ _)
      | (with_reducible exact LeO.refl _)
      | (with_reducible exact LeO.none _)
      | (with_reducible refine LeO.ite ?_ ?_)
      | (with_reducible refine LeO.bind ?_ (fun _ => ?_))
      | exact ih0 _ _ _ _
      | exact ih1 _ _ _ _
      | exact ih2 _ _ _ _
      | exact ih3 _ _ _ _ _ _ _
      | exact horariumlaw47_few.mono _ _
      | exact horariumlaw47_heads.mono _
      | exact horariumref47_Same.mono _ _ _
      | exact log_Read.mono _ _
      | exact log_Size.mono _ _ _
      | exact log_Write.mono _ _
      | exact LeO.none _
      | refine LeO.ite ?_ ?_
      | refine LeO.bind ?_ (fun _ => ?_)
    · intro y0 y1 y2 y3 y4 y5 y6
      unfold horariumlaw47_LogPrefix.l0
      repeat' first
      | (with_reducible exact ih0 _ _ _ _)
      | (with_reducible exact ih1 _ _ _ _)
      | (with_reducible exact ih2 _ _ _ _)
      | (with_reducible exact ih3 _ _ _ _ _ _ _)
      | (with_reducible exact horariumlaw47_few.mono _ _)
      | (with_reducible exact horariumlaw47_heads.mono _)
      | (with_reducible exact horariumref47_Same.mono _ _ _)
      | (with_reducible exact log_Read.mono _ _)
      | (with_reducible exact log_Size.mono _ _ _)
      | (with_reducible exact log_Write.mono _ _)
      | (with_reducible exact LeO.refl _)
      | (with_reducible exact LeO.none _)
      | (with_reducible refine LeO.ite ?_ ?_)
      | (with_reducible refine LeO.bind ?_ (fun _ => ?_))
      | exact ih0 _ _ _ _
      | exact ih1 _ _ _ _
      | exact ih2 _ _ _ _
      | exact ih3 _ _ _ _ _ _ _
      | exact horariumlaw47_few.mono _ _
      | exact horariumlaw47_heads.mono _
      | exact horariumref47_Same.mono _ _ _
      | exact log_Read.mono _ _
      | exact log_Size.mono _ _ _
      | exact log_Write.mono _ _
      | exact LeO.none _
      | refine LeO.ite ?_ ?_
      | refine LeO.bind ?_ (fun _ => ?_)
theorem horariumlaw47_LogPrefix.mono : ∀ a0 a1 a2 k, LeO (horariumlaw47_LogPrefix.f k a0 a1 a2) (horariumlaw47_LogPrefix.f (k + 1) a0 a1 a2) := by
  intro a0 a1 a2 k
  obtain ⟨ih0, ih1, ih2, ih3⟩ := horariumlaw47_LogPrefix.mono_l k
  unfold horariumlaw47_LogPrefix.f
  repeat' first
      | (with_reducible exact ih0 _ _ _ _)
      | (with_reducible exact ih1 _ _ _ _)
      | (with_reducible exact ih2 _ _ _ _)
      | (with_reducible exact ih3 _ _ _ _ _ _ _)
      | (with_reducible exact horariumlaw47_few.mono _ _)
      | (with_reducible exact horariumlaw47_heads.mono _)
      | (with_reducible exact horariumref47_Same.mono _ _ _)
      | (with_reducible exact log_Read.mono _ _)
      | (with_reducible exact log_Size.mono _ _ _)
      | (with_reducible exact log_Write.mono _ _)
      | (with_reducible exact LeO.refl _)
      | (with_reducible exact LeO.none _)
      | (with_reducible refine LeO.ite ?_ ?_)
      | (with_reducible refine LeO.bind ?_ (fun _ => ?_))
      | exact ih0 _ _ _ _
      | exact ih1 _ _ _ _
      | exact ih2 _ _ _ _
      | exact ih3 _ _ _ _ _ _ _
      | exact horariumlaw47_few.mono _ _
      | exact horariumlaw47_heads.mono _
      | exact horariumref47_Same.mono _ _ _
      | exact log_Read.mono _ _
      | exact log_Size.mono _ _ _
      | exact log_Write.mono _ _
      | exact LeO.none _
      | refine LeO.ite ?_ ?_
      | refine LeO.bind ?_ (fun _ => ?_)
set_option maxHeartbeats 8000000 in
set_option maxRecDepth 100000 in
theorem horariumlaw47_LogPrefix.calls (k : Nat) (A0 : Option Addr) (c0 : Nat) (l0 : List (S68)) (a1 : Int) (A2 : Option Addr) (c2 : Nat) (l2 : List Int) (r : Bool) (hr_ : r = true) (w : World) (hr0 : Kd.C k68 w A0 l0.length l0) (hc0 : l0.length ≤ c0) (hr2 : Kd.C (Kd.int .u8) w A2 l2.length l2) (hc2 : l2.length ≤ c2) (h : horariumlaw47_LogPrefix.f k l0 a1 l2 = some r) :
    Calls Try.prog 22 #[.slice A0 l0.length c0, .int .i64 a1, .slice A2 l2.length c2] w fun e w' => e = .returned (.bool r) ∧ Below w.heap.size w w' := by
  have hu68 := Try.underlying68
  have HR0 := Aside0.mk hr0
  have HC0 := Aside0.mk hc0
  clear hr0 hc0
  have HR2 := Aside0.mk hr2
  have HC2 := Aside0.mk hc2
  clear hr2 hc2
  have HB := Aside0.mk (Below.refl w.heap.size w)
  have H : ((horariumlaw47_few.f k l0).bind fun t474 => (if t474 = true then (horariumlaw47_LogPrefix.j0 k l0 a1 l2 (decide ((l2.length : Int) > 3000))) else (horariumlaw47_LogPrefix.j0 k l0 a1 l2 true))) = some r := h
  clear h
  have HC4 := Aside0.mk H
  clear H
  go_enter Try.func22, Try.ntmps22
  go_upto_region 1 with (fail)
  go_cut [23] (fun v23 wc => ∃ (kq : Nat) (x23_3 : Bool), v23 = .bool x23_3 ∧ Aside0 (horariumlaw47_LogPrefix.j0 kq l0 a1 l2 x23_3 = some r) ∧ Aside0 (kq ≤ k) ∧ Aside0 (Below w.heap.size w wc))
  case first =>
    have H := HC4.out
    clear HC4
    replace H := Option.bind_eq_some_iff.mp H
    obtain ⟨t474, A50, H⟩ := H
    replace H : (if t474 = true then (horariumlaw47_LogPrefix.j0 k l0 a1 l2 (decide ((l2.length : Int) > 3000))) else (horariumlaw47_LogPrefix.j0 k l0 a1 l2 true)) = some r := H
    have A5 := Aside0.mk A50
    clear A50
    by_cases c6 : t474 = true
    · subst c6
      have H1 : (horariumlaw47_LogPrefix.j0 k l0 a1 l2 (decide ((l2.length : Int) > 3000))) = some r := by rw [if_pos rfl] at H; exact H
      clear H
      have H := H1
      clear H1
      have H' := Aside0.mk H
      clear H
      go_wp2_with (first | ((with_reducible refine gate_callee (f := 100) rfl ?_); refine goesL_ (some 17) rfl rfl Try.func100 (by kernel_rfl) rfl #[.slice A0 l0.length c0] rfl (by (try simp only [List.map_toArray, List.map_cons, List.map_nil]); first | done | rfl | (simp only [List.length_drop, List.length_take]; rfl)) ?_; (with_reducible refine (horariumlaw47_few.calls k _ _ l0 true _ ?side1 ?side2 A5.out).mono ?_); (case side1 => repeat (first | exact (Kd.C_below HR0.out HB.out) | (with_reducible refine Kd.C_alloc ?_ _) | (with_reducible refine Kd.C_drewN ?_ _) | (with_reducible refine Kd.C_drew ?_))); (case side2 => exact HC0.out); rintro e w7 ⟨rfl, hb⟩; refine ⟨_, rfl, ?_⟩; have n0_ := Aside0.mk (below_step (by repeat (first | (with_reducible first | exact HB.out | apply below_alloc | apply pw_below_drewN | apply below_drew1) | exact HB.out)) hb); clear HB; have HB := n0_; clear n0_; (try clear hb); (try clear hb2); (try clear hk); (try clear hi)))
      go_meet
      case rel => exact ⟨_, (decide ((l2.length : Int) > 3000)), (by first | rfl | (simp; done) | (simp [*]; done)), H', ⟨by first | omega | exact Nat.le_refl _⟩, ⟨by repeat (first | (with_reducible first | exact HB.out | apply below_alloc | apply pw_below_drewN | apply below_drew1) | exact HB.out)⟩⟩
    · replace c6 := Bool.eq_false_iff.mpr c6
      subst c6
      have H1 : (horariumlaw47_LogPrefix.j0 k l0 a1 l2 true) = some r := by rw [if_neg (show ¬ (false = true) by decide)] at H; exact H
      clear H
      have H := H1
      clear H1
      have H' := Aside0.mk H
      clear H
      go_wp2_with (first | ((with_reducible refine gate_callee (f := 100) rfl ?_); refine goesL_ (some 17) rfl rfl Try.func100 (by kernel_rfl) rfl #[.slice A0 l0.length c0] rfl (by (try simp only [List.map_toArray, List.map_cons, List.map_nil]); first | done | rfl | (simp only [List.length_drop, List.length_take]; rfl)) ?_; (with_reducible refine (horariumlaw47_few.calls k _ _ l0 false _ ?side1 ?side2 A5.out).mono ?_); (case side1 => repeat (first | exact (Kd.C_below HR0.out HB.out) | (with_reducible refine Kd.C_alloc ?_ _) | (with_reducible refine Kd.C_drewN ?_ _) | (with_reducible refine Kd.C_drew ?_))); (case side2 => exact HC0.out); rintro e w8 ⟨rfl, hb⟩; refine ⟨_, rfl, ?_⟩; have n0_ := Aside0.mk (below_step (by repeat (first | (with_reducible first | exact HB.out | apply below_alloc | apply pw_below_drewN | apply below_drew1) | exact HB.out)) hb); clear HB; have HB := n0_; clear n0_; (try clear hb); (try clear hb2); (try clear hk); (try clear hi)))
      go_meet
      case rel => exact ⟨_, (true), (by first | rfl | (simp; done) | (simp [*]; done)), H', ⟨by first | omega | exact Nat.le_refl _⟩, ⟨by repeat (first | (with_reducible first | exact HB.out | apply below_alloc | apply pw_below_drewN | apply below_drew1) | exact HB.out)⟩⟩
  case rest =>
    clear HC4
    try clear c1
    try clear c2
    try clear p2
    try clear c6
    obtain ⟨kq, x23_3, rfl, HA, HJ3, HB⟩ := hcut
    cases kq with
    | zero => exact absurd HA.out (by simp [horariumlaw47_LogPrefix.j0])
    | succ kj3 =>
      have H := HA.out
      clear HA
      simp only [horariumlaw47_LogPrefix.j0] at H
      by_cases c9 : x23_3 = true
      · subst c9
        have H1 : ((horariumlaw47_heads.f kj3).bind fun t475 => (some t475)) = some r := by rw [if_pos rfl] at H; exact H
        clear H
        have H := H1
        clear H1
        replace H := Option.bind_eq_some_iff.mp H
        obtain ⟨t475, A100, H⟩ := H
        replace H : (some t475) = some r := H
        have A10 := Aside0.mk A100
        clear A100
        obtain rfl := Option.some.inj H
        go_wp2_with (first | ((with_reducible refine gate_callee (f := 101) rfl ?_); refine goesL_ (some 24) rfl rfl Try.func101 (by kernel_rfl) rfl #[] rfl (by (try simp only [List.map_toArray, List.map_cons, List.map_nil]); first | done | rfl | (simp only [List.length_drop, List.length_take]; rfl)) ?_; (with_reducible refine (horariumlaw47_heads.calls kj3  t475 _ A10.out).mono ?_); rintro e w11 ⟨rfl, hb⟩; refine ⟨_, rfl, ?_⟩; have n0_ := Aside0.mk (below_step (by repeat (first | (with_reducible first | exact HB.out | apply below_alloc | apply pw_below_drewN | apply below_drew1) | exact HB.out)) hb); clear HB; have HB := n0_; clear n0_; (try clear hb); (try clear hb2); (try clear hk); (try clear hi)))
        go_ret
        exact ⟨by first | rfl | (simp [errW_none, errW_some] <;> rfl) | (simp [*, errW_none, errW_some] <;> rfl), by repeat (first | (with_reducible first | exact HB.out | apply below_alloc | apply pw_below_drewN | apply below_drew1) | exact HB.out)⟩
      · replace c9 := Bool.eq_false_iff.mpr c9
        subst c9
        have H1 : ((log_Write.f kj3 l0).bind fun bt476 => (if bt476.2 = 0 then ((some (([] : List Int) : List Int)).bind fun y481 => (if y481.length + bt476.1.length < 140737488355328 then ((some (y481 ++ bt476.1 : List Int)).bind fun y484 => (if y484.length + l2.length < 140737488355328 then ((log_Read.f kj3 (y484 ++ l2)).bind fun bt490 => (if (bt490.1.length : Int) < (l0.length : Int) then (horariumlaw47_LogPrefix.j1 kj3 l0 a1 bt476.1 true) else (if 0 ≤ (l0.length : Int) then (if (l0.length : Int) ≤ (bt490.1.length : Int) then ((horariumref47_Same.f kj3 (bt490.1.take ((l0.length : Int) : Int).toNat) l0).bind fun t498 => (if t498 = true then (if bt490.2 < (bt476.1.length : Int) then (horariumlaw47_LogPrefix.j1 kj3 l0 a1 bt476.1 true) else (if (bt490.1.length : Int) = (l0.length : Int) then (horariumlaw47_LogPrefix.j1 kj3 l0 a1 bt476.1 (bt490.2 != (bt476.1.length : Int))) else (horariumlaw47_LogPrefix.j1 kj3 l0 a1 bt476.1 false))) else (horariumlaw47_LogPrefix.j1 kj3 l0 a1 bt476.1 true))) else (none)) else (none)))) else (none))) else (none))) else (if bt476.2 = 2 then (if (bt476.1.length : Int) = 0 then ((horariumlaw47_heads.f kj3).bind fun t480 => (some t480)) else (some false)) else (some false)))) = some r := by rw [if_neg (show ¬ (false = true) by decide)] at H; exact H
        clear H
        have H := H1
        clear H1
        replace H := Option.bind_eq_some_iff.mp H
        obtain ⟨⟨t476, t477⟩, A120, H⟩ := H
        replace H : (if t477 = 0 then ((some (([] : List Int) : List Int)).bind fun y481 => (if y481.length + t476.length < 140737488355328 then ((some (y481 ++ t476 : List Int)).bind fun y484 => (if y484.length + l2.length < 140737488355328 then ((log_Read.f kj3 (y484 ++ l2)).bind fun bt490 => (if (bt490.1.length : Int) < (l0.length : Int) then (horariumlaw47_LogPrefix.j1 kj3 l0 a1 t476 true) else (if 0 ≤ (l0.length : Int) then (if (l0.length : Int) ≤ (bt490.1.length : Int) then ((horariumref47_Same.f kj3 (bt490.1.take ((l0.length : Int) : Int).toNat) l0).bind fun t498 => (if t498 = true then (if bt490.2 < (t476.length : Int) then (horariumlaw47_LogPrefix.j1 kj3 l0 a1 t476 true) else (if (bt490.1.length : Int) = (l0.length : Int) then (horariumlaw47_LogPrefix.j1 kj3 l0 a1 t476 (bt490.2 != (t476.length : Int))) else (horariumlaw47_LogPrefix.j1 kj3 l0 a1 t476 false))) else (horariumlaw47_LogPrefix.j1 kj3 l0 a1 t476 true))) else (none)) else (none)))) else (none))) else (none))) else (if t477 = 2 then (if (t476.length : Int) = 0 then ((horariumlaw47_heads.f kj3).bind fun t480 => (some t480)) else (some false)) else (some false))) = some r := H
        have A12 := Aside0.mk A120
        clear A120
        by_cases c13 : t477 = 0
        · rw [if_pos c13] at H
          have c13b0 : (t477 == 0) = true := beq_iff_eq.mpr c13
          have c13b1 : (t477 != 0) = false := bne_eq_false_iff_eq.mpr c13
          clear c13
          obtain ⟨y481, hy481⟩ : ∃ y_ : List Int, y_ = (([] : List Int)) := ⟨_, rfl⟩
          replace H : (if y481.length + t476.length < 140737488355328 then ((some (y481 ++ t476 : List Int)).bind fun y484 => (if y484.length + l2.length < 140737488355328 then ((log_Read.f kj3 (y484 ++ l2)).bind fun bt490 => (if (bt490.1.length : Int) < (l0.length : Int) then (horariumlaw47_LogPrefix.j1 kj3 l0 a1 t476 true) else (if 0 ≤ (l0.length : Int) then (if (l0.length : Int) ≤ (bt490.1.length : Int) then ((horariumref47_Same.f kj3 (bt490.1.take ((l0.length : Int) : Int).toNat) l0).bind fun t498 => (if t498 = true then (if bt490.2 < (t476.length : Int) then (horariumlaw47_LogPrefix.j1 kj3 l0 a1 t476 true) else (if (bt490.1.length : Int) = (l0.length : Int) then (horariumlaw47_LogPrefix.j1 kj3 l0 a1 t476 (bt490.2 != (t476.length : Int))) else (horariumlaw47_LogPrefix.j1 kj3 l0 a1 t476 false))) else (horariumlaw47_LogPrefix.j1 kj3 l0 a1 t476 true))) else (none)) else (none)))) else (none))) else (none)) = some r := by first | (rw [hy481]; with_reducible exact H) | (have H2_ := (Option.bind_some _ _).symm.trans H; rw [hy481]; with_reducible exact H2_) | (have H2_ := (Option.bind_some _ _).symm.trans H; with_reducible exact H2_) | with_reducible exact H | (rw [hy481]; exact H) | exact H
          have Ny481 := Aside0.mk hy481
          clear hy481
          by_cases c14 : y481.length + t476.length < 140737488355328
          · rw [if_pos c14] at H
            have LMc14 := Aside0.mk c14
            clear c14
            obtain ⟨y484, hy484⟩ : ∃ y_ : List Int, y_ = (y481 ++ t476) := ⟨_, rfl⟩
            replace H : (if y484.length + l2.length < 140737488355328 then ((log_Read.f kj3 (y484 ++ l2)).bind fun bt490 => (if (bt490.1.length : Int) < (l0.length : Int) then (horariumlaw47_LogPrefix.j1 kj3 l0 a1 t476 true) else (if 0 ≤ (l0.length : Int) then (if (l0.length : Int) ≤ (bt490.1.length : Int) then ((horariumref47_Same.f kj3 (bt490.1.take ((l0.length : Int) : Int).toNat) l0).bind fun t498 => (if t498 = true then (if bt490.2 < (t476.length : Int) then (horariumlaw47_LogPrefix.j1 kj3 l0 a1 t476 true) else (if (bt490.1.length : Int) = (l0.length : Int) then (horariumlaw47_LogPrefix.j1 kj3 l0 a1 t476 (bt490.2 != (t476.length : Int))) else (horariumlaw47_LogPrefix.j1 kj3 l0 a1 t476 false))) else (horariumlaw47_LogPrefix.j1 kj3 l0 a1 t476 true))) else (none)) else (none)))) else (none)) = some r := by first | (rw [hy484]; with_reducible exact H) | (have H2_ := (Option.bind_some _ _).symm.trans H; rw [hy484]; with_reducible exact H2_) | (have H2_ := (Option.bind_some _ _).symm.trans H; with_reducible exact H2_) | with_reducible exact H | (rw [hy484]; exact H) | exact H
            have Ny484 := Aside0.mk hy484
            clear hy484
            by_cases c15 : y484.length + l2.length < 140737488355328
            · rw [if_pos c15] at H
              have LMc15 := Aside0.mk c15
              clear c15
              obtain ⟨y487, hy487⟩ : ∃ y_ : List Int, y_ = (y484 ++ l2) := ⟨_, rfl⟩
              replace H : ((log_Read.f kj3 y487).bind fun bt490 => (if (bt490.1.length : Int) < (l0.length : Int) then (horariumlaw47_LogPrefix.j1 kj3 l0 a1 t476 true) else (if 0 ≤ (l0.length : Int) then (if (l0.length : Int) ≤ (bt490.1.length : Int) then ((horariumref47_Same.f kj3 (bt490.1.take ((l0.length : Int) : Int).toNat) l0).bind fun t498 => (if t498 = true then (if bt490.2 < (t476.length : Int) then (horariumlaw47_LogPrefix.j1 kj3 l0 a1 t476 true) else (if (bt490.1.length : Int) = (l0.length : Int) then (horariumlaw47_LogPrefix.j1 kj3 l0 a1 t476 (bt490.2 != (t476.length : Int))) else (horariumlaw47_LogPrefix.j1 kj3 l0 a1 t476 false))) else (horariumlaw47_LogPrefix.j1 kj3 l0 a1 t476 true))) else (none)) else (none)))) = some r := by first | (rw [hy487]; with_reducible exact H) | (have H2_ := (Option.bind_some _ _).symm.trans H; rw [hy487]; with_reducible exact H2_) | (have H2_ := (Option.bind_some _ _).symm.trans H; with_reducible exact H2_) | with_reducible exact H | (rw [hy487]; exact H) | exact H
              have Ny487 := Aside0.mk hy487
              clear hy487
              replace H := Option.bind_eq_some_iff.mp H
              obtain ⟨⟨t490, t491⟩, A160, H⟩ := H
              replace H : (if (t490.length : Int) < (l0.length : Int) then (horariumlaw47_LogPrefix.j1 kj3 l0 a1 t476 true) else (if 0 ≤ (l0.length : Int) then (if (l0.length : Int) ≤ (t490.length : Int) then ((horariumref47_Same.f kj3 (t490.take ((l0.length : Int) : Int).toNat) l0).bind fun t498 => (if t498 = true then (if t491 < (t476.length : Int) then (horariumlaw47_LogPrefix.j1 kj3 l0 a1 t476 true) else (if (t490.length : Int) = (l0.length : Int) then (horariumlaw47_LogPrefix.j1 kj3 l0 a1 t476 (t491 != (t476.length : Int))) else (horariumlaw47_LogPrefix.j1 kj3 l0 a1 t476 false))) else (horariumlaw47_LogPrefix.j1 kj3 l0 a1 t476 true))) else (none)) else (none))) = some r := H
              have A16 := Aside0.mk A160
              clear A160
              have HC17 := Aside0.mk H
              clear H
              go_upto_region 7 with (first | ((with_reducible refine gate_callee (f := 102) rfl ?_); refine goesL_ (some 27) rfl rfl Try.func102 (by kernel_rfl) rfl #[.slice A0 l0.length c0] rfl (by (try simp only [List.map_toArray, List.map_cons, List.map_nil]); first | done | rfl | (simp only [List.length_drop, List.length_take]; rfl)) ?_; (with_reducible refine (log_Write.calls kj3 _ _ l0 t476 t477 _ ?side1 ?side2 A12.out).mono ?_); (case side1 => repeat (first | exact (Kd.C_below HR0.out HB.out) | (with_reducible refine Kd.C_alloc ?_ _) | (with_reducible refine Kd.C_drewN ?_ _) | (with_reducible refine Kd.C_drew ?_))); (case side2 => exact HC0.out); rintro e w18 ⟨v478, rfl, ho0, hb⟩; refine ⟨_, rfl, ?_⟩; have n0_ := Aside0.mk (Kd.R_lower ho0 (below_size (by repeat (first | (with_reducible first | exact HB.out | apply below_alloc | apply pw_below_drewN | apply below_drew1) | exact HB.out)))); have n1_ := Aside0.mk (below_step (by repeat (first | (with_reducible first | exact HB.out | apply below_alloc | apply pw_below_drewN | apply below_drew1) | exact HB.out)) hb); clear HB; have HO479 := n0_; have HB := n1_; clear n0_ n1_; (try clear hb); (try clear hb2); (try clear hk); (try clear hi); (try clear ho0)) | ((with_reducible refine gate_dst (N := 43) rfl ?_); (try (refine gate_guard (by rfl) ?_; dsimp only)); refine Kd.R_lit (Kd.int .u8) _ 5 ?hg (N := 43) ?hd (xs := ([] : List Int)) (inner := []) (ok := fun _ => True) (okp := fun _ => True) ?hr ?hp (fun _ hk => hk) trivial (Below.refl _ _) (Nat.le_refl _) (by simp) ?_; (case hd => rfl); (case hg => rfl); (case hr => first | (go_simp; done) | (go_simp; rfl)); (case hp => exact (Reps.none _ _)); intro v482 w19 ho20 hb hg_ hnew_; clear hg_ hnew_; (first | rw [← Ny481.out] at ho20 | (simp only [Int.reduceToNat] at ho20; rw [← Ny481.out] at ho20)); have n0_ := Aside0.mk (Kd.R_elder' (by (with_reducible repeat (first | apply Kd.R_alloc | apply Kd.R_drewN | apply Kd.R_drew)); exact HO479.out) (Kd.R_base ho20) hb); have n1_ := Aside0.mk (Kd.R_lower (Kd.R_new' ho20 (Kd.R_lt (by (with_reducible repeat (first | apply Kd.R_alloc | apply Kd.R_drewN | apply Kd.R_drew)); exact HO479.out))) (below_size (by repeat (first | (with_reducible first | exact HB.out | apply below_alloc | apply pw_below_drewN | apply below_drew1) | exact HB.out)))); have n2_ := Aside0.mk (below_step (by repeat (first | (with_reducible first | exact HB.out | apply below_alloc | apply pw_below_drewN | apply below_drew1) | exact HB.out)) hb); clear HO479; clear HB; have HO479 := n0_; have HO483 := n1_; have HB := n2_; clear n0_ n1_ n2_; clear hb ho20; obtain ⟨Ao22, co22, eo22⟩ := Kd.R_slice HO479.out; subst eo22) | ((with_reducible refine gate_builtin (b := .append) (xs := #[.tmp 43, .tmp 44]) rfl ?_); (try (refine gate_guard (by rfl) ?_; dsimp only)); at_builtin; refine Kd.R_append_rows (Kd.int .u8) (w0 := w) w.heap.size rfl (.tmp 43) (.tmp 44) 44 5 (.int .u8 0) 1 rfl Try.underlying44 info5 rfl (by decide) (by omega) v482 y481 t476 _ _ _ (fun k_ => some k_ ≠ (.slice Ao22 t476.length co22 : Value).ownBlock) (fun _ => False) rfl rfl ?aO ?aR (fun _ _ h => h) (fun _ h => h.elim) ?aF ?aB ?aS ?aL ?_; (case aR => repeat (first | exact (Kd.R_reads' HO479.out).2.2 | (with_reducible refine Kd.C_alloc ?_ _) | (with_reducible refine Kd.C_drewN ?_ _) | (with_reducible refine Kd.C_drew ?_))); (case aB => exact (by repeat (first | (with_reducible first | exact HB.out | apply below_alloc | apply pw_below_drewN | apply below_drew1) | exact HB.out))); (case aF => exact (fun k_ hk => Kd.fresh' (Kd.R_lt (by (with_reducible repeat (first | apply Kd.R_alloc | apply Kd.R_drewN | apply Kd.R_drew)); exact HO479.out)) k_ hk)); (case aO => exact (by (with_reducible repeat (first | apply Kd.R_alloc | apply Kd.R_drewN | apply Kd.R_drew)); exact Kd.R_mono HO483.out (fun _ hk => hk.2))); (case aS => exact (below_size (by repeat (first | (with_reducible first | exact HB.out | apply below_alloc | apply pw_below_drewN | apply below_drew1) | exact HB.out)))); (case aL => have := LMc14.out; omega); intro v485 w21 ho hb hg hat; rw [← Ny484.out] at ho; have n0_ := Aside0.mk (Kd.R_after (ok := (fun _ => True)) (by (with_reducible repeat (first | apply Kd.R_alloc | apply Kd.R_drewN | apply Kd.R_drew)); exact HO479.out) hg hat); have n1_ := Aside0.mk (hb); have n2_ := Aside0.mk (ho); clear HO479; clear HB; clear HO483; have HO479 := n0_; have HB := n1_; have HO486 := n2_; clear n0_ n1_ n2_; clear ho hb hg hat) | ((with_reducible refine gate_builtin (b := .append) (xs := #[.tmp 45, .tmp 46]) rfl ?_); (try (refine gate_guard (by rfl) ?_; dsimp only)); at_builtin; refine Kd.R_append_rows (Kd.int .u8) (w0 := w) w.heap.size rfl (.tmp 45) (.tmp 46) 44 5 (.int .u8 0) 1 rfl Try.underlying44 info5 rfl (by decide) (by omega) v485 y484 l2 _ _ _ (fun k_ => some k_ ≠ (.slice Ao22 t476.length co22 : Value).ownBlock) (fun _ => False) rfl rfl ?aO ?aR (fun _ _ h => h) (fun _ h => h.elim) ?aF ?aB ?aS ?aL ?_; (case aR => repeat (first | exact (Kd.C_below HR2.out HB.out) | (with_reducible refine Kd.C_alloc ?_ _) | (with_reducible refine Kd.C_drewN ?_ _) | (with_reducible refine Kd.C_drew ?_))); (case aB => exact (by repeat (first | (with_reducible first | exact HB.out | apply below_alloc | apply pw_below_drewN | apply below_drew1) | exact HB.out))); (case aF => exact (fun k_ hk => Kd.fresh' (Kd.R_lt (by (with_reducible repeat (first | apply Kd.R_alloc | apply Kd.R_drewN | apply Kd.R_drew)); exact HO479.out)) k_ hk)); (case aO => exact (by (with_reducible repeat (first | apply Kd.R_alloc | apply Kd.R_drewN | apply Kd.R_drew)); exact HO486.out)); (case aS => exact (below_size (by repeat (first | (with_reducible first | exact HB.out | apply below_alloc | apply pw_below_drewN | apply below_drew1) | exact HB.out)))); (case aL => have := LMc15.out; omega); intro v488 w23 ho hb hg hat; rw [← Ny487.out] at ho; have n0_ := Aside0.mk (Kd.R_after (ok := (fun _ => True)) (by (with_reducible repeat (first | apply Kd.R_alloc | apply Kd.R_drewN | apply Kd.R_drew)); exact HO479.out) hg hat); have n1_ := Aside0.mk (hb); have n2_ := Aside0.mk (ho); clear HO479; clear HB; clear HO486; have HO479 := n0_; have HB := n1_; have HO489 := n2_; clear n0_ n1_ n2_; clear ho hb hg hat; obtain ⟨Ao24, co24, eo24⟩ := Kd.R_slice HO489.out; subst eo24) | ((with_reducible refine gate_callee (f := 103) rfl ?_); refine goesL_ (some 48) rfl rfl Try.func103 (by kernel_rfl) rfl #[.slice Ao24 y487.length co24] rfl (by (try simp only [List.map_toArray, List.map_cons, List.map_nil]); first | done | rfl | (simp only [List.length_drop, List.length_take]; rfl)) ?_; (with_reducible refine (log_Read.calls kj3 _ _ y487 t490 t491 _ ?side1 ?side2 A16.out).mono ?_); (case side1 => repeat (first | exact (Kd.R_reads' HO489.out).2.2 | (with_reducible refine Kd.C_alloc ?_ _) | (with_reducible refine Kd.C_drewN ?_ _) | (with_reducible refine Kd.C_drew ?_))); (case side2 => exact (Kd.R_reads' HO489.out).2.1); rintro e w25 ⟨v492, rfl, ho0, hb⟩; refine ⟨_, rfl, ?_⟩; have n0_ := Aside0.mk (Kd.R_below (by (with_reducible repeat (first | apply Kd.R_alloc | apply Kd.R_drewN | apply Kd.R_drew)); exact HO479.out) hb); have n1_ := Aside0.mk (Kd.R_below (by (with_reducible repeat (first | apply Kd.R_alloc | apply Kd.R_drewN | apply Kd.R_drew)); exact HO489.out) hb); have n2_ := Aside0.mk (Kd.S_lower (Kd.S_new' (Kd.S_new' ho0 (Kd.R_lt (by (with_reducible repeat (first | apply Kd.R_alloc | apply Kd.R_drewN | apply Kd.R_drew)); exact HO479.out))) (Kd.R_lt (by (with_reducible repeat (first | apply Kd.R_alloc | apply Kd.R_drewN | apply Kd.R_drew)); exact HO489.out))) (below_size (by repeat (first | (with_reducible first | exact HB.out | apply below_alloc | apply pw_below_drewN | apply below_drew1) | exact HB.out)))); have n3_ := Aside0.mk (below_step (by repeat (first | (with_reducible first | exact HB.out | apply below_alloc | apply pw_below_drewN | apply below_drew1) | exact HB.out)) hb); clear HO479; clear HO489; clear HB; have HO479 := n0_; have HO489 := n1_; have HO493 := n2_; have HB := n3_; clear n0_ n1_ n2_ n3_; (try clear hb); (try clear hb2); (try clear hk); (try clear hi); (try clear ho0)))
              (try simp only [Act.put, List.setIfInBounds_toArray, List.set_cons_zero, List.set_cons_succ])
              go_cut [83] (fun v83 wc => ∃ (kq : Nat) (x83_16 : Bool), v83 = .bool x83_16 ∧ Aside0 (horariumlaw47_LogPrefix.j1 kq l0 a1 t476 x83_16 = some r) ∧ Aside0 (kq ≤ kj3) ∧ Aside0 (Kd.R (Kd.int .u8) 5 wc w.heap.size (fun _ => True) (.slice Ao22 t476.length co22) t476) ∧ Aside0 (Below w.heap.size w wc))
              case first =>
                have H := HC17.out
                clear HC17
                by_cases c26 : (t490.length : Int) < (l0.length : Int)
                · rw [if_pos c26] at H
                  have c26b0 : decide ((t490.length : Int) < (l0.length : Int)) = true := decide_eq_true c26
                  have c26b1 : decide (t490.length < l0.length) = true := decide_eq_true (Int.ofNat_lt.mp c26)
                  clear c26
                  (first | rw [c26b0] | (simp only [i64_w, i32_w]; rw [c26b0]) | skip)
                  have H' := Aside0.mk H
                  clear H
                  obtain ⟨Ao27, co27, eo27⟩ := Kd.S_slice HO493.out
                  subst eo27
                  go_wp2
                  go_meet
                  case rel => exact ⟨_, (true), (by first | rfl | (simp; done) | (simp [*]; done)), H', ⟨by have := HJ3.out; first | omega | exact Nat.le_refl _⟩, ⟨by (with_reducible repeat (first | apply Kd.R_alloc | apply Kd.R_drewN | apply Kd.R_drew)); exact Kd.R_mono HO479.out (fun _ hk => trivial)⟩, ⟨by repeat (first | (with_reducible first | exact HB.out | apply below_alloc | apply pw_below_drewN | apply below_drew1) | exact HB.out)⟩⟩
                · rw [if_neg c26] at H
                  have c26b0 : decide ((t490.length : Int) < (l0.length : Int)) = false := decide_eq_false c26
                  have c26b1 : decide (t490.length < l0.length) = false := decide_eq_false (fun h => c26 (Int.ofNat_lt.mpr h))
                  clear c26
                  (first | rw [c26b0] | (simp only [i64_w, i32_w]; rw [c26b0]) | skip)
                  by_cases c28 : 0 ≤ (l0.length : Int)
                  · rw [if_pos c28] at H
                    have c28b0 := eq_true c28
                    have c28b1 : decide (0 ≤ (l0.length : Int)) = true := decide_eq_true c28
                    clear c28
                    by_cases c29 : (l0.length : Int) ≤ (t490.length : Int)
                    · rw [if_pos c29] at H
                      have c29b0 := eq_true c29
                      have c29b1 : decide ((l0.length : Int) ≤ (t490.length : Int)) = true := decide_eq_true c29
                      clear c29
                      obtain ⟨y494, hy494⟩ : ∃ y_ : List (S68), y_ = (t490.take ((l0.length : Int) : Int).toNat) := ⟨_, rfl⟩
                      replace H : ((horariumref47_Same.f kj3 y494 l0).bind fun t498 => (if t498 = true then (if t491 < (t476.length : Int) then (horariumlaw47_LogPrefix.j1 kj3 l0 a1 t476 true) else (if (t490.length : Int) = (l0.length : Int) then (horariumlaw47_LogPrefix.j1 kj3 l0 a1 t476 (t491 != (t476.length : Int))) else (horariumlaw47_LogPrefix.j1 kj3 l0 a1 t476 false))) else (horariumlaw47_LogPrefix.j1 kj3 l0 a1 t476 true))) = some r := by first | (rw [hy494]; with_reducible exact H) | (have H2_ := (Option.bind_some _ _).symm.trans H; rw [hy494]; with_reducible exact H2_) | (have H2_ := (Option.bind_some _ _).symm.trans H; with_reducible exact H2_) | with_reducible exact H | (rw [hy494]; exact H) | exact H
                      have Ny494 := Aside0.mk hy494
                      clear hy494
                      replace H := Option.bind_eq_some_iff.mp H
                      obtain ⟨t498, A300, H⟩ := H
                      replace H : (if t498 = true then (if t491 < (t476.length : Int) then (horariumlaw47_LogPrefix.j1 kj3 l0 a1 t476 true) else (if (t490.length : Int) = (l0.length : Int) then (horariumlaw47_LogPrefix.j1 kj3 l0 a1 t476 (t491 != (t476.length : Int))) else (horariumlaw47_LogPrefix.j1 kj3 l0 a1 t476 false))) else (horariumlaw47_LogPrefix.j1 kj3 l0 a1 t476 true)) = some r := H
                      have A30 := Aside0.mk A300
                      clear A300
                      by_cases c31 : t498 = true
                      · subst c31
                        have H1 : (if t491 < (t476.length : Int) then (horariumlaw47_LogPrefix.j1 kj3 l0 a1 t476 true) else (if (t490.length : Int) = (l0.length : Int) then (horariumlaw47_LogPrefix.j1 kj3 l0 a1 t476 (t491 != (t476.length : Int))) else (horariumlaw47_LogPrefix.j1 kj3 l0 a1 t476 false))) = some r := by rw [if_pos rfl] at H; exact H
                        clear H
                        have H := H1
                        clear H1
                        by_cases c32 : t491 < (t476.length : Int)
                        · rw [if_pos c32] at H
                          have c32b0 : decide (t491 < (t476.length : Int)) = true := decide_eq_true c32
                          clear c32
                          have H' := Aside0.mk H
                          clear H
                          obtain ⟨Ao33, co33, eo33⟩ := Kd.S_slice HO493.out
                          subst eo33
                          have q34 : ((l0.length : Int) : Int) ≤ ((t490.length : Int) : Int) := of_decide_eq_true (by first | (with_reducible assumption) | assumption)
                          obtain ⟨i034, hi034, _, hsz34, _⟩ := info_parts info68
                          have hroom34 : t490.length ≤ co33 := (Kd.S_reads' HO493.out).2.1
                          have hC34 : Kd.C k68 _ Ao33 t490.length t490 := (Kd.S_reads' HO493.out).2.2
                          have hcut34 := cut_to (P := Try.prog) 66 68 .i64 Try.underlying66 hi034 Ao33 t490.length co33 (l0.length : Int) (of_decide_eq_true (by first | (with_reducible assumption) | assumption)) q34 hroom34
                          have hr34 := Kd.C_take (m := ((l0.length : Int) : Int).toNat) hC34 (by omega)
                          have hy34 : y494.length = ((l0.length : Int) : Int).toNat := (by rw [Ny494.out, List.length_take]; omega)
                          rw [← Ny494.out] at hr34
                          rw [← hy34] at hcut34
                          have HR497 := Aside0.mk hr34
                          have HC497 := Aside0.mk (show y494.length ≤ co33 from by omega)
                          clear hr34 hC34 hroom34 hi034 hsz34
                          have KY34 := Aside0.mk hy34
                          clear hy34
                          have KL34 := Aside0.mk (show ((l0.length : Int) : Int).toNat ≤ t490.length from by omega)
                          replace q34 := eq_true q34
                          go_wp2_with (first | (go_at_call 68; (with_reducible refine (horariumref47_Same.calls kj3 _ _ y494 _ _ l0 true _ ?side1 ?side2 ?side3 ?side4 A30.out).mono ?_); (case side1 => repeat (first | exact (by repeat (first | (with_reducible exact HR497.out) | (with_reducible refine Kd.C_alloc ?_ _) | (with_reducible refine Kd.C_drewN ?_ _) | (with_reducible refine Kd.C_drew ?_) | exact HR497.out)) | (with_reducible refine Kd.C_alloc ?_ _) | (with_reducible refine Kd.C_drewN ?_ _) | (with_reducible refine Kd.C_drew ?_))); (case side2 => exact HC497.out); (case side3 => repeat (first | exact (Kd.C_below HR0.out HB.out) | (with_reducible refine Kd.C_alloc ?_ _) | (with_reducible refine Kd.C_drewN ?_ _) | (with_reducible refine Kd.C_drew ?_))); (case side4 => exact HC0.out); rintro e w' ⟨rfl, ⟨nd, rfl⟩⟩))
                          go_meet
                          case rel => exact ⟨_, (true), (by first | rfl | (simp; done) | (simp [*]; done)), H', ⟨by have := HJ3.out; first | omega | exact Nat.le_refl _⟩, ⟨by (with_reducible repeat (first | apply Kd.R_alloc | apply Kd.R_drewN | apply Kd.R_drew)); exact Kd.R_mono HO479.out (fun _ hk => trivial)⟩, ⟨by repeat (first | (with_reducible first | exact HB.out | apply below_alloc | apply pw_below_drewN | apply below_drew1) | exact HB.out)⟩⟩
                        · rw [if_neg c32] at H
                          have c32b0 : decide (t491 < (t476.length : Int)) = false := decide_eq_false c32
                          clear c32
                          by_cases c35 : (t490.length : Int) = (l0.length : Int)
                          · rw [if_pos c35] at H
                            have c35b0 : ((t490.length : Int) == (l0.length : Int)) = true := beq_iff_eq.mpr c35
                            have c35b1 : ((t490.length : Int) != (l0.length : Int)) = false := bne_eq_false_iff_eq.mpr c35
                            have c35b2 : (t490.length == l0.length) = true := by first | simpa using c35 | (simp at c35 ⊢; omega)
                            clear c35
                            have H' := Aside0.mk H
                            clear H
                            obtain ⟨Ao36, co36, eo36⟩ := Kd.S_slice HO493.out
                            subst eo36
                            have q37 : ((l0.length : Int) : Int) ≤ ((t490.length : Int) : Int) := of_decide_eq_true (by first | (with_reducible assumption) | assumption)
                            obtain ⟨i037, hi037, _, hsz37, _⟩ := info_parts info68
                            have hroom37 : t490.length ≤ co36 := (Kd.S_reads' HO493.out).2.1
                            have hC37 : Kd.C k68 _ Ao36 t490.length t490 := (Kd.S_reads' HO493.out).2.2
                            have hcut37 := cut_to (P := Try.prog) 66 68 .i64 Try.underlying66 hi037 Ao36 t490.length co36 (l0.length : Int) (of_decide_eq_true (by first | (with_reducible assumption) | assumption)) q37 hroom37
                            have hr37 := Kd.C_take (m := ((l0.length : Int) : Int).toNat) hC37 (by omega)
                            have hy37 : y494.length = ((l0.length : Int) : Int).toNat := (by rw [Ny494.out, List.length_take]; omega)
                            rw [← Ny494.out] at hr37
                            rw [← hy37] at hcut37
                            have HR497 := Aside0.mk hr37
                            have HC497 := Aside0.mk (show y494.length ≤ co36 from by omega)
                            clear hr37 hC37 hroom37 hi037 hsz37
                            have KY37 := Aside0.mk hy37
                            clear hy37
                            have KL37 := Aside0.mk (show ((l0.length : Int) : Int).toNat ≤ t490.length from by omega)
                            replace q37 := eq_true q37
                            go_wp2_with (first | (go_at_call 68; (with_reducible refine (horariumref47_Same.calls kj3 _ _ y494 _ _ l0 true _ ?side1 ?side2 ?side3 ?side4 A30.out).mono ?_); (case side1 => repeat (first | exact (by repeat (first | (with_reducible exact HR497.out) | (with_reducible refine Kd.C_alloc ?_ _) | (with_reducible refine Kd.C_drewN ?_ _) | (with_reducible refine Kd.C_drew ?_) | exact HR497.out)) | (with_reducible refine Kd.C_alloc ?_ _) | (with_reducible refine Kd.C_drewN ?_ _) | (with_reducible refine Kd.C_drew ?_))); (case side2 => exact HC497.out); (case side3 => repeat (first | exact (Kd.C_below HR0.out HB.out) | (with_reducible refine Kd.C_alloc ?_ _) | (with_reducible refine Kd.C_drewN ?_ _) | (with_reducible refine Kd.C_drew ?_))); (case side4 => exact HC0.out); rintro e w' ⟨rfl, ⟨nd, rfl⟩⟩))
                            go_meet
                            case rel => exact ⟨_, ((t491 != (t476.length : Int))), (by first | rfl | (simp; done) | (simp [*]; done)), H', ⟨by have := HJ3.out; first | omega | exact Nat.le_refl _⟩, ⟨by (with_reducible repeat (first | apply Kd.R_alloc | apply Kd.R_drewN | apply Kd.R_drew)); exact Kd.R_mono HO479.out (fun _ hk => trivial)⟩, ⟨by repeat (first | (with_reducible first | exact HB.out | apply below_alloc | apply pw_below_drewN | apply below_drew1) | exact HB.out)⟩⟩
                          · rw [if_neg c35] at H
                            have c35b0 : ((t490.length : Int) == (l0.length : Int)) = false := beq_eq_false_iff_ne.mpr c35
                            have c35b1 : ((t490.length : Int) != (l0.length : Int)) = true := bne_iff_ne.mpr c35
                            have c35b2 : (t490.length == l0.length) = false := by first | simpa using c35 | (simp at c35 ⊢; omega)
                            have H' := Aside0.mk H
                            clear H
                            obtain ⟨Ao38, co38, eo38⟩ := Kd.S_slice HO493.out
                            subst eo38
                            have q39 : ((l0.length : Int) : Int) ≤ ((t490.length : Int) : Int) := of_decide_eq_true (by first | (with_reducible assumption) | assumption)
                            obtain ⟨i039, hi039, _, hsz39, _⟩ := info_parts info68
                            have hroom39 : t490.length ≤ co38 := (Kd.S_reads' HO493.out).2.1
                            have hC39 : Kd.C k68 _ Ao38 t490.length t490 := (Kd.S_reads' HO493.out).2.2
                            have hcut39 := cut_to (P := Try.prog) 66 68 .i64 Try.underlying66 hi039 Ao38 t490.length co38 (l0.length : Int) (of_decide_eq_true (by first | (with_reducible assumption) | assumption)) q39 hroom39
                            have hr39 := Kd.C_take (m := ((l0.length : Int) : Int).toNat) hC39 (by omega)
                            have hy39 : y494.length = ((l0.length : Int) : Int).toNat := (by rw [Ny494.out, List.length_take]; omega)
                            rw [← Ny494.out] at hr39
                            rw [← hy39] at hcut39
                            have HR497 := Aside0.mk hr39
                            have HC497 := Aside0.mk (show y494.length ≤ co38 from by omega)
                            clear hr39 hC39 hroom39 hi039 hsz39
                            have KY39 := Aside0.mk hy39
                            clear hy39
                            have KL39 := Aside0.mk (show ((l0.length : Int) : Int).toNat ≤ t490.length from by omega)
                            replace q39 := eq_true q39
                            go_wp2_with (first | (go_at_call 68; (with_reducible refine (horariumref47_Same.calls kj3 _ _ y494 _ _ l0 true _ ?side1 ?side2 ?side3 ?side4 A30.out).mono ?_); (case side1 => repeat (first | exact (by repeat (first | (with_reducible exact HR497.out) | (with_reducible refine Kd.C_alloc ?_ _) | (with_reducible refine Kd.C_drewN ?_ _) | (with_reducible refine Kd.C_drew ?_) | exact HR497.out)) | (with_reducible refine Kd.C_alloc ?_ _) | (with_reducible refine Kd.C_drewN ?_ _) | (with_reducible refine Kd.C_drew ?_))); (case side2 => exact HC497.out); (case side3 => repeat (first | exact (Kd.C_below HR0.out HB.out) | (with_reducible refine Kd.C_alloc ?_ _) | (with_reducible refine Kd.C_drewN ?_ _) | (with_reducible refine Kd.C_drew ?_))); (case side4 => exact HC0.out); rintro e w' ⟨rfl, ⟨nd, rfl⟩⟩))
                            go_meet
                            case rel => exact ⟨_, (false), (by first | rfl | (simp; done) | (simp [*]; done)), H', ⟨by have := HJ3.out; first | omega | exact Nat.le_refl _⟩, ⟨by (with_reducible repeat (first | apply Kd.R_alloc | apply Kd.R_drewN | apply Kd.R_drew)); exact Kd.R_mono HO479.out (fun _ hk => trivial)⟩, ⟨by repeat (first | (with_reducible first | exact HB.out | apply below_alloc | apply pw_below_drewN | apply below_drew1) | exact HB.out)⟩⟩
                      · replace c31 := Bool.eq_false_iff.mpr c31
                        subst c31
                        have H1 : (horariumlaw47_LogPrefix.j1 kj3 l0 a1 t476 true) = some r := by rw [if_neg (show ¬ (false = true) by decide)] at H; exact H
                        clear H
                        have H := H1
                        clear H1
                        have H' := Aside0.mk H
                        clear H
                        obtain ⟨Ao40, co40, eo40⟩ := Kd.S_slice HO493.out
                        subst eo40
                        have q41 : ((l0.length : Int) : Int) ≤ ((t490.length : Int) : Int) := of_decide_eq_true (by first | (with_reducible assumption) | assumption)
                        obtain ⟨i041, hi041, _, hsz41, _⟩ := info_parts info68
                        have hroom41 : t490.length ≤ co40 := (Kd.S_reads' HO493.out).2.1
                        have hC41 : Kd.C k68 _ Ao40 t490.length t490 := (Kd.S_reads' HO493.out).2.2
                        have hcut41 := cut_to (P := Try.prog) 66 68 .i64 Try.underlying66 hi041 Ao40 t490.length co40 (l0.length : Int) (of_decide_eq_true (by first | (with_reducible assumption) | assumption)) q41 hroom41
                        have hr41 := Kd.C_take (m := ((l0.length : Int) : Int).toNat) hC41 (by omega)
                        have hy41 : y494.length = ((l0.length : Int) : Int).toNat := (by rw [Ny494.out, List.length_take]; omega)
                        rw [← Ny494.out] at hr41
                        rw [← hy41] at hcut41
                        have HR497 := Aside0.mk hr41
                        have HC497 := Aside0.mk (show y494.length ≤ co40 from by omega)
                        clear hr41 hC41 hroom41 hi041 hsz41
                        have KY41 := Aside0.mk hy41
                        clear hy41
                        have KL41 := Aside0.mk (show ((l0.length : Int) : Int).toNat ≤ t490.length from by omega)
                        replace q41 := eq_true q41
                        go_wp2_with (first | (go_at_call 68; (with_reducible refine (horariumref47_Same.calls kj3 _ _ y494 _ _ l0 false _ ?side1 ?side2 ?side3 ?side4 A30.out).mono ?_); (case side1 => repeat (first | exact (by repeat (first | (with_reducible exact HR497.out) | (with_reducible refine Kd.C_alloc ?_ _) | (with_reducible refine Kd.C_drewN ?_ _) | (with_reducible refine Kd.C_drew ?_) | exact HR497.out)) | (with_reducible refine Kd.C_alloc ?_ _) | (with_reducible refine Kd.C_drewN ?_ _) | (with_reducible refine Kd.C_drew ?_))); (case side2 => exact HC497.out); (case side3 => repeat (first | exact (Kd.C_below HR0.out HB.out) | (with_reducible refine Kd.C_alloc ?_ _) | (with_reducible refine Kd.C_drewN ?_ _) | (with_reducible refine Kd.C_drew ?_))); (case side4 => exact HC0.out); rintro e w' ⟨rfl, ⟨nd, rfl⟩⟩))
                        go_meet
                        case rel => exact ⟨_, (true), (by first | rfl | (simp; done) | (simp [*]; done)), H', ⟨by have := HJ3.out; first | omega | exact Nat.le_refl _⟩, ⟨by (with_reducible repeat (first | apply Kd.R_alloc | apply Kd.R_drewN | apply Kd.R_drew)); exact Kd.R_mono HO479.out (fun _ hk => trivial)⟩, ⟨by repeat (first | (with_reducible first | exact HB.out | apply below_alloc | apply pw_below_drewN | apply below_drew1) | exact HB.out)⟩⟩
                    · rw [if_neg c29] at H
                      exact absurd H (by simp)
                  · rw [if_neg c28] at H
                    exact absurd H (by simp)
              case rest =>
                clear HC17
                try clear c1
                try clear c2
                try clear p2
                try clear c3
                try clear q3
                try clear q4
                try clear c6
                try clear c9
                try clear c10
                try clear c13
                try clear c13b0
                try clear c13b1
                try clear c14
                try clear c15
                try clear c22
                try clear c26
                try clear c26b0
                try clear c26b1
                try clear c28
                try clear c28b0
                try clear c28b1
                try clear c29
                try clear c29b0
                try clear c29b1
                try clear c31
                try clear c32
                try clear c32b0
                try clear q34
                try clear c35
                try clear c35b0
                try clear c35b1
                try clear c35b2
                try clear q37
                try clear q39
                try clear q41
                try clear p2
                try clear q34
                try clear q37
                try clear q39
                try clear q41
                obtain ⟨kq, x83_16, rfl, HA, HJ16, HO_7, HB⟩ := hcut
                cases kq with
                | zero => exact absurd HA.out (by simp [horariumlaw47_LogPrefix.j1])
                | succ kj16 =>
                  have H := HA.out
                  clear HA
                  simp only [horariumlaw47_LogPrefix.j1] at H
                  by_cases c42 : x83_16 = true
                  · subst c42
                    have H1 : (some false) = some r := by rw [if_pos rfl] at H; exact H
                    clear H
                    have H := H1
                    clear H1
                    exact absurd ((Option.some.inj H).trans hr_) Bool.false_ne_true
                  · replace c42 := Bool.eq_false_iff.mpr c42
                    subst c42
                    have H1 : (if a1 < 0 then (horariumlaw47_LogPrefix.j2 kj16 l0 a1 t476 true) else (horariumlaw47_LogPrefix.j2 kj16 l0 a1 t476 (decide (a1 > (t476.length : Int))))) = some r := by rw [if_neg (show ¬ (false = true) by decide)] at H; exact H
                    clear H
                    have H := H1
                    clear H1
                    have HC43 := Aside0.mk H
                    clear H
                    go_upto_region 9 with (fail)
                    go_cut [91] (fun v91 wc => ∃ (kq : Nat) (x91_42 : Bool), v91 = .bool x91_42 ∧ Aside0 (horariumlaw47_LogPrefix.j2 kq l0 a1 t476 x91_42 = some r) ∧ Aside0 (kq ≤ kj16) ∧ Aside0 (Kd.R (Kd.int .u8) 5 wc w.heap.size (fun _ => True) (.slice Ao22 t476.length co22) t476) ∧ Aside0 (Below w.heap.size w wc))
                    case first =>
                      have H := HC43.out
                      clear HC43
                      by_cases c44 : a1 < 0
                      · rw [if_pos c44] at H
                        have c44b0 : decide (a1 < 0) = true := decide_eq_true c44
                        clear c44
                        (first | rw [c44b0] | (simp only [i64_w, i32_w]; rw [c44b0]) | skip)
                        have H' := Aside0.mk H
                        clear H
                        go_wp2
                        go_meet
                        case rel => exact ⟨_, (true), (by first | rfl | (simp; done) | (simp [*]; done)), H', ⟨by have := HJ3.out; have := HJ16.out; first | omega | exact Nat.le_refl _⟩, ⟨by (with_reducible repeat (first | apply Kd.R_alloc | apply Kd.R_drewN | apply Kd.R_drew)); exact HO_7.out⟩, ⟨by repeat (first | (with_reducible first | exact HB.out | apply below_alloc | apply pw_below_drewN | apply below_drew1) | exact HB.out)⟩⟩
                      · rw [if_neg c44] at H
                        have c44b0 : decide (a1 < 0) = false := decide_eq_false c44
                        clear c44
                        (first | rw [c44b0] | (simp only [i64_w, i32_w]; rw [c44b0]) | skip)
                        have H' := Aside0.mk H
                        clear H
                        go_wp2
                        go_meet
                        case rel => exact ⟨_, (decide (a1 > (t476.length : Int))), (by first | rfl | (simp; done) | (simp [*]; done)), H', ⟨by have := HJ3.out; have := HJ16.out; first | omega | exact Nat.le_refl _⟩, ⟨by (with_reducible repeat (first | apply Kd.R_alloc | apply Kd.R_drewN | apply Kd.R_drew)); exact HO_7.out⟩, ⟨by repeat (first | (with_reducible first | exact HB.out | apply below_alloc | apply pw_below_drewN | apply below_drew1) | exact HB.out)⟩⟩
                    case rest =>
                      clear HC43
                      try clear c1
                      try clear c2
                      try clear p2
                      try clear c3
                      try clear q3
                      try clear c4
                      try clear q4
                      try clear c6
                      try clear c9
                      try clear c10
                      try clear c13
                      try clear c13b0
                      try clear c13b1
                      try clear c14
                      try clear c15
                      try clear c22
                      try clear c26
                      try clear c26b0
                      try clear c26b1
                      try clear c28
                      try clear c28b0
                      try clear c28b1
                      try clear c29
                      try clear c29b0
                      try clear c29b1
                      try clear c31
                      try clear c32
                      try clear c32b0
                      try clear q34
                      try clear c35
                      try clear c35b0
                      try clear c35b1
                      try clear c35b2
                      try clear q37
                      try clear q39
                      try clear q41
                      try clear c42
                      try clear c44
                      try clear c44b0
                      try clear p2
                      try clear q3
                      try clear q34
                      try clear q37
                      try clear q39
                      try clear q4
                      try clear q41
                      obtain ⟨kq, x91_42, rfl, HA, HJ42, HO_7, HB⟩ := hcut
                      cases kq with
                      | zero => exact absurd HA.out (by simp [horariumlaw47_LogPrefix.j2])
                      | succ kj42 =>
                        have H := HA.out
                        clear HA
                        simp only [horariumlaw47_LogPrefix.j2] at H
                        by_cases c45 : x91_42 = true
                        · subst c45
                          have H1 : ((horariumlaw47_heads.f kj42).bind fun t499 => (some t499)) = some r := by rw [if_pos rfl] at H; exact H
                          clear H
                          have H := H1
                          clear H1
                          replace H := Option.bind_eq_some_iff.mp H
                          obtain ⟨t499, A460, H⟩ := H
                          replace H : (some t499) = some r := H
                          have A46 := Aside0.mk A460
                          clear A460
                          obtain rfl := Option.some.inj H
                          go_wp2_with (first | ((with_reducible refine gate_callee (f := 101) rfl ?_); refine goesL_ (some 92) rfl rfl Try.func101 (by kernel_rfl) rfl #[] rfl (by (try simp only [List.map_toArray, List.map_cons, List.map_nil]); first | done | rfl | (simp only [List.length_drop, List.length_take]; rfl)) ?_; (with_reducible refine (horariumlaw47_heads.calls kj42  t499 _ A46.out).mono ?_); rintro e w47 ⟨rfl, hb⟩; refine ⟨_, rfl, ?_⟩; have n0_ := Aside0.mk (Kd.R_below (by (with_reducible repeat (first | apply Kd.R_alloc | apply Kd.R_drewN | apply Kd.R_drew)); exact HO_7.out) hb); have n1_ := Aside0.mk (below_step (by repeat (first | (with_reducible first | exact HB.out | apply below_alloc | apply pw_below_drewN | apply below_drew1) | exact HB.out)) hb); clear HO_7; clear HB; have HO_7 := n0_; have HB := n1_; clear n0_ n1_; (try clear hb); (try clear hb2); (try clear hk); (try clear hi)))
                          go_ret
                          exact ⟨by first | rfl | (simp [errW_none, errW_some] <;> rfl) | (simp [*, errW_none, errW_some] <;> rfl), by repeat (first | (with_reducible first | exact HB.out | apply below_alloc | apply pw_below_drewN | apply below_drew1) | exact HB.out)⟩
                        · replace c45 := Bool.eq_false_iff.mpr c45
                          subst c45
                          have H1 : (if 0 ≤ a1 then (if a1 ≤ (t476.length : Int) then ((log_Read.f kj42 (t476.take (a1 : Int).toNat)).bind fun bt504 => (horariumlaw47_LogPrefix.l0 kj42 l0 a1 bt504.1 bt504.2 0 0 0)) else (none)) else (none)) = some r := by rw [if_neg (show ¬ (false = true) by decide)] at H; exact H
                          clear H
                          have H := H1
                          clear H1
                          by_cases c48 : 0 ≤ a1
                          · rw [if_pos c48] at H
                            have c48b0 := eq_true c48
                            have c48b1 : decide (0 ≤ a1) = true := decide_eq_true c48
                            clear c48
                            by_cases c49 : a1 ≤ (t476.length : Int)
                            · rw [if_pos c49] at H
                              have c49b0 := eq_true c49
                              have c49b1 : decide (a1 ≤ (t476.length : Int)) = true := decide_eq_true c49
                              clear c49
                              obtain ⟨y500, hy500⟩ : ∃ y_ : List Int, y_ = (t476.take (a1 : Int).toNat) := ⟨_, rfl⟩
                              replace H : ((log_Read.f kj42 y500).bind fun bt504 => (horariumlaw47_LogPrefix.l0 kj42 l0 a1 bt504.1 bt504.2 0 0 0)) = some r := by first | (rw [hy500]; with_reducible exact H) | (have H2_ := (Option.bind_some _ _).symm.trans H; rw [hy500]; with_reducible exact H2_) | (have H2_ := (Option.bind_some _ _).symm.trans H; with_reducible exact H2_) | with_reducible exact H | (rw [hy500]; exact H) | exact H
                              have Ny500 := Aside0.mk hy500
                              clear hy500
                              replace H := Option.bind_eq_some_iff.mp H
                              obtain ⟨⟨t504, t505⟩, A500, H⟩ := H
                              replace H : (horariumlaw47_LogPrefix.l0 kj42 l0 a1 t504 t505 0 0 0) = some r := H
                              have A50 := Aside0.mk A500
                              clear A500
                              have H' := Aside0.mk H
                              clear H
                              have q51 : (a1 : Int) ≤ ((t476.length : Int) : Int) := of_decide_eq_true (by first | (with_reducible assumption) | assumption)
                              obtain ⟨i051, hi051, _, hsz51, _⟩ := info_parts info5
                              have hroom51 : t476.length ≤ co22 := (Kd.R_reads' HO_7.out).2.1
                              have hC51 : Kd.C (Kd.int .u8) _ Ao22 t476.length t476 := (Kd.R_reads' HO_7.out).2.2
                              have hcut51 := cut_to (P := Try.prog) 44 5 .i64 Try.underlying44 hi051 Ao22 t476.length co22 a1 (of_decide_eq_true (by first | (with_reducible assumption) | assumption)) q51 hroom51
                              have hr51 := Kd.C_take (m := (a1 : Int).toNat) hC51 (by omega)
                              have hy51 : y500.length = (a1 : Int).toNat := (by rw [Ny500.out, List.length_take]; omega)
                              rw [← Ny500.out] at hr51
                              rw [← hy51] at hcut51
                              have HR503 := Aside0.mk hr51
                              have HC503 := Aside0.mk (show y500.length ≤ co22 from by omega)
                              clear hr51 hC51 hroom51 hi051 hsz51
                              have KY51 := Aside0.mk hy51
                              clear hy51
                              have KL51 := Aside0.mk (show (a1 : Int).toNat ≤ t476.length from by omega)
                              replace q51 := eq_true q51
                              go_wp2_with (first | ((with_reducible refine gate_callee (f := 103) rfl ?_); refine goesL_ (some 97) rfl rfl Try.func103 (by kernel_rfl) rfl #[.slice Ao22 y500.length co22] rfl (by (try simp only [List.map_toArray, List.map_cons, List.map_nil]); first | done | rfl | (simp only [List.length_drop, List.length_take]; rfl)) ?_; (with_reducible refine (log_Read.calls kj42 _ _ y500 t504 t505 _ ?side1 ?side2 A50.out).mono ?_); (case side1 => repeat (first | exact (by repeat (first | (with_reducible exact HR503.out) | (with_reducible refine Kd.C_alloc ?_ _) | (with_reducible refine Kd.C_drewN ?_ _) | (with_reducible refine Kd.C_drew ?_) | exact HR503.out)) | (with_reducible refine Kd.C_alloc ?_ _) | (with_reducible refine Kd.C_drewN ?_ _) | (with_reducible refine Kd.C_drew ?_))); (case side2 => exact HC503.out); rintro e w52 ⟨v506, rfl, ho0, hb⟩; refine ⟨_, rfl, ?_⟩; have n0_ := Aside0.mk (Kd.R_below (by (with_reducible repeat (first | apply Kd.R_alloc | apply Kd.R_drewN | apply Kd.R_drew)); exact HO_7.out) hb); have n1_ := Aside0.mk (Kd.S_lower (Kd.S_new' ho0 (Kd.R_lt (by (with_reducible repeat (first | apply Kd.R_alloc | apply Kd.R_drewN | apply Kd.R_drew)); exact HO_7.out))) (below_size (by repeat (first | (with_reducible first | exact HB.out | apply below_alloc | apply pw_below_drewN | apply below_drew1) | exact HB.out)))); have n2_ := Aside0.mk (Kd.C_below (by repeat (first | (with_reducible exact HR503.out) | (with_reducible refine Kd.C_alloc ?_ _) | (with_reducible refine Kd.C_drewN ?_ _) | (with_reducible refine Kd.C_drew ?_) | exact HR503.out)) hb); have n3_ := Aside0.mk (below_step (by repeat (first | (with_reducible first | exact HB.out | apply below_alloc | apply pw_below_drewN | apply below_drew1) | exact HB.out)) hb); clear HO_7; clear HR503; clear HB; have HO_7 := n0_; have HO507 := n1_; have HR503 := n2_; have HB := n3_; clear n0_ n1_ n2_ n3_; (try clear hb); (try clear hb2); (try clear hk); (try clear hi); (try clear ho0)))
                              go_loopg [13, 14, 15] kj42 (fun kq v13 v14 v15 w' => ∃ (x13_4 : Int) (x14_4 : Int) (x15_4 : Int), v13 = .int .i64 x13_4 ∧ v14 = .int .i64 x14_4 ∧ v15 = .int .i64 x15_4 ∧ Aside0 (horariumlaw47_LogPrefix.l0 kq l0 a1 t504 t505 x13_4 x14_4 x15_4 = some r) ∧ Aside0 (kq ≤ kj42) ∧ Aside0 (Kd.S k68 68 w' w.heap.size (fun _ => True) v506 t504) ∧ Aside0 (Kd.C (Kd.int .u8) w' Ao22 y500.length y500) ∧ Aside0 (Below w.heap.size w w'))
                              case atStart => exact ⟨(0), (0), (0), (by first | rfl | (simp; done) | (simp [*]; done)), (by first | rfl | (simp; done) | (simp [*]; done)), (by first | rfl | (simp; done) | (simp [*]; done)), H', ⟨Nat.le_refl _⟩, ⟨by (with_reducible repeat (first | apply Kd.S_alloc | apply Kd.S_drewN | apply Kd.S_drew)); exact Kd.S_mono HO507.out (fun _ hk => trivial)⟩, ⟨by repeat (first | (with_reducible exact HR503.out) | (with_reducible refine Kd.C_alloc ?_ _) | (with_reducible refine Kd.C_drewN ?_ _) | (with_reducible refine Kd.C_drew ?_) | exact HR503.out)⟩, ⟨by repeat (first | (with_reducible first | exact HB.out | apply below_alloc | apply pw_below_drewN | apply below_drew1) | exact HB.out)⟩⟩
                              case round =>
                                clear H'
                                try clear c1
                                try clear c2
                                try clear p2
                                try clear c3
                                try clear q3
                                try clear c4
                                try clear q4
                                try clear q5
                                try clear c6
                                try clear c9
                                try clear c10
                                try clear c13
                                try clear c13b0
                                try clear c13b1
                                try clear c14
                                try clear c15
                                try clear c22
                                try clear c26
                                try clear c26b0
                                try clear c26b1
                                try clear c28
                                try clear c28b0
                                try clear c28b1
                                try clear c29
                                try clear c29b0
                                try clear c29b1
                                try clear c31
                                try clear c32
                                try clear c32b0
                                try clear q34
                                try clear c35
                                try clear c35b0
                                try clear c35b1
                                try clear c35b2
                                try clear q37
                                try clear q39
                                try clear q41
                                try clear c42
                                try clear c44
                                try clear c44b0
                                try clear c45
                                try clear c48
                                try clear c48b0
                                try clear c48b1
                                try clear c49
                                try clear c49b0
                                try clear c49b1
                                try clear q51
                                try clear p2
                                try clear q3
                                try clear q34
                                try clear q37
                                try clear q39
                                try clear q4
                                try clear q41
                                try clear q51
                                obtain ⟨x13_4, x14_4, x15_4, rfl, rfl, rfl, HA, HK4, HO_11, HR503, HB⟩ := hrel
                                cases gk with
                                | zero => exact absurd HA.out (by simp [horariumlaw47_LogPrefix.l0])
                                | succ k4 =>
                                  have H := HA.out
                                  clear HA
                                  simp only [horariumlaw47_LogPrefix.l0] at H
                                  by_cases c53 : x15_4 < (l0.length : Int)
                                  · rw [if_pos c53] at H
                                    have c53b0 : decide (x15_4 < (l0.length : Int)) = true := decide_eq_true c53
                                    clear c53
                                    by_cases c54 : 0 ≤ x15_4
                                    · rw [if_pos c54] at H
                                      have c54b0 : decide (0 ≤ x15_4) = true := decide_eq_true c54
                                      clear c54
                                      replace H := Option.bind_eq_some_iff.mp H
                                      obtain ⟨t509, A550, H⟩ := H
                                      replace H : (if (wrap64 (x14_4 + t509)) ≤ a1 then ((log_Size.f k4 ((rd_T68 l0 x15_4).f0) ((rd_T68 l0 x15_4).f1)).bind fun t511 => (horariumlaw47_LogPrefix.l0 k4 l0 a1 t504 t505 (wrap64 (x13_4 + 1)) (wrap64 (x14_4 + t511)) (wrap64 (x15_4 + 1)))) else (if (t504.length : Int) = x13_4 then (if 0 ≤ x13_4 then (if x13_4 ≤ (l0.length : Int) then ((horariumref47_Same.f k4 t504 (l0.take (x13_4 : Int).toNat)).bind fun t516 => (if t516 = true then (if t505 = x14_4 then ((horariumlaw47_heads.f k4).bind fun t517 => (some t517)) else (some false)) else (some false))) else (none)) else (none)) else (some false))) = some r := H
                                      have A55 := Aside0.mk A550
                                      clear A550
                                      by_cases c56 : (wrap64 (x14_4 + t509)) ≤ a1
                                      · rw [if_pos c56] at H
                                        have c56b0 : decide ((wrap64 (x14_4 + t509)) ≤ a1) = true := decide_eq_true c56
                                        clear c56
                                        replace H := Option.bind_eq_some_iff.mp H
                                        obtain ⟨t511, A570, H⟩ := H
                                        replace H : (horariumlaw47_LogPrefix.l0 k4 l0 a1 t504 t505 (wrap64 (x13_4 + 1)) (wrap64 (x14_4 + t511)) (wrap64 (x15_4 + 1))) = some r := H
                                        have A57 := Aside0.mk A570
                                        clear A570
                                        have H' := Aside0.mk H
                                        clear H
                                        have p508 : 0 ≤ (x15_4 : Int) := of_decide_eq_true (by first | (with_reducible assumption) | assumption)
                                        have q508 : x15_4 < (l0.length : Int) := of_decide_eq_true (by first | (with_reducible assumption) | assumption)
                                        obtain ⟨ad508, A508_1, c508_1, e508, hx508_0, hx508_1, hl508_1, hi508_1⟩ := at_T68 HR0.out x15_4 p508 q508
                                        cases e508
                                        replace hx508_0 := (HB.out.cell (World.block_lt_of_cell? w _ hx508_0)).trans hx508_0
                                        replace hx508_1 := (HB.out.cell (World.block_lt_of_cell? w _ hx508_1)).trans hx508_1
                                        have HR508_1 := Aside0.mk hi508_1
                                        have HC508_1 := Aside0.mk hl508_1
                                        clear hi508_1 hl508_1
                                        replace p508 := eq_true p508
                                        replace q508 := eq_true q508
                                        go_wp2_with (first | (go_at_call 104; (with_reducible refine (log_Size.calls k4 ((rd_T68 l0 x15_4).f0) _ _ ((rd_T68 l0 x15_4).f1) t509 _ ?side1 ?side2 A55.out).mono ?_); (case side1 => repeat (first | exact (Kd.C_below HR508_1.out HB.out) | (with_reducible refine Kd.C_alloc ?_ _) | (with_reducible refine Kd.C_drewN ?_ _) | (with_reducible refine Kd.C_drew ?_))); (case side2 => exact HC508_1.out); rintro e w58 ⟨rfl, hb⟩; have n0_ := Aside0.mk (Kd.S_below (by (with_reducible repeat (first | apply Kd.S_alloc | apply Kd.S_drewN | apply Kd.S_drew)); exact HO_11.out) hb); have n1_ := Aside0.mk (Kd.C_below (by repeat (first | (with_reducible exact HR503.out) | (with_reducible refine Kd.C_alloc ?_ _) | (with_reducible refine Kd.C_drewN ?_ _) | (with_reducible refine Kd.C_drew ?_) | exact HR503.out)) hb); have n2_ := Aside0.mk (below_step (by repeat (first | (with_reducible first | exact HB.out | apply below_alloc | apply pw_below_drewN | apply below_drew1) | exact HB.out)) hb); clear HO_11; clear HR503; clear HB; have HO_11 := n0_; have HR503 := n1_; have HB := n2_; clear n0_ n1_ n2_; (try clear hb); (try clear hb2); (try clear hk); (try clear hi); have p510 : 0 ≤ (x15_4 : Int) := of_decide_eq_true (by first | (with_reducible assumption) | assumption); have q510 : x15_4 < (l0.length : Int) := of_decide_eq_true (by first | (with_reducible assumption) | assumption); obtain ⟨ad510, A510_1, c510_1, e510, hx510_0, hx510_1, hl510_1, hi510_1⟩ := at_T68 HR0.out x15_4 p510 q510; obtain rfl : ad508 = ad510 := (by injection e510); replace hx510_0 := (HB.out.cell (World.block_lt_of_cell? w _ hx510_0)).trans hx510_0; replace hx510_1 := (HB.out.cell (World.block_lt_of_cell? w _ hx510_1)).trans hx510_1; have HR510_1 := Aside0.mk hi510_1; have HC510_1 := Aside0.mk hl510_1; clear hi510_1 hl510_1; replace p510 := eq_true p510; replace q510 := eq_true q510) | ((with_reducible refine gate_callee (f := 104) rfl ?_); refine goesL_ (some 122) rfl rfl Try.func104 (by kernel_rfl) rfl #[.agg #[.int .i64 ((rd_T68 l0 x15_4).f0), .slice A510_1 ((rd_T68 l0 x15_4).f1).length c510_1]] rfl (by (try simp only [List.map_toArray, List.map_cons, List.map_nil]); first | done | rfl | (simp only [List.length_drop, List.length_take]; rfl)) ?_; (with_reducible refine (log_Size.calls k4 ((rd_T68 l0 x15_4).f0) _ _ ((rd_T68 l0 x15_4).f1) t511 _ ?side1 ?side2 A57.out).mono ?_); (case side1 => repeat (first | exact (Kd.C_below HR510_1.out HB.out) | (with_reducible refine Kd.C_alloc ?_ _) | (with_reducible refine Kd.C_drewN ?_ _) | (with_reducible refine Kd.C_drew ?_))); (case side2 => exact HC510_1.out); rintro e w59 ⟨rfl, hb⟩; refine ⟨_, rfl, ?_⟩; have n0_ := Aside0.mk (Kd.S_below (by (with_reducible repeat (first | apply Kd.S_alloc | apply Kd.S_drewN | apply Kd.S_drew)); exact HO_11.out) hb); have n1_ := Aside0.mk (Kd.C_below (by repeat (first | (with_reducible exact HR503.out) | (with_reducible refine Kd.C_alloc ?_ _) | (with_reducible refine Kd.C_drewN ?_ _) | (with_reducible refine Kd.C_drew ?_) | exact HR503.out)) hb); have n2_ := Aside0.mk (below_step (by repeat (first | (with_reducible first | exact HB.out | apply below_alloc | apply pw_below_drewN | apply below_drew1) | exact HB.out)) hb); clear HO_11; clear HR503; clear HB; have HO_11 := n0_; have HR503 := n1_; have HB := n2_; clear n0_ n1_ n2_; (try clear hb); (try clear hb2); (try clear hk); (try clear hi)))
                                        go_roundg k4
                                        case measure => have := HJ3.out; have := HJ16.out; have := HJ42.out; have := HK4.out; omega
                                        case rel => exact ⟨(wrap64 (x13_4 + 1)), (wrap64 (x14_4 + t511)), (wrap64 (x15_4 + 1)), (by first | rfl | (simp; done) | (simp [*]; done)), (by first | rfl | (simp; done) | (simp [*]; done)), (by first | rfl | (simp; done) | (simp [*]; done)), H', ⟨by have := HJ3.out; have := HJ16.out; have := HJ42.out; have := HK4.out; omega⟩, ⟨by (with_reducible repeat (first | apply Kd.S_alloc | apply Kd.S_drewN | apply Kd.S_drew)); exact HO_11.out⟩, ⟨by repeat (first | (with_reducible exact HR503.out) | (with_reducible refine Kd.C_alloc ?_ _) | (with_reducible refine Kd.C_drewN ?_ _) | (with_reducible refine Kd.C_drew ?_) | exact HR503.out)⟩, ⟨by repeat (first | (with_reducible first | exact HB.out | apply below_alloc | apply pw_below_drewN | apply below_drew1) | exact HB.out)⟩⟩
                                      · rw [if_neg c56] at H
                                        have c56b0 : decide ((wrap64 (x14_4 + t509)) ≤ a1) = false := decide_eq_false c56
                                        clear c56
                                        by_cases c60 : (t504.length : Int) = x13_4
                                        · rw [if_pos c60] at H
                                          have c60b0 : ((t504.length : Int) == x13_4) = true := beq_iff_eq.mpr c60
                                          have c60b1 : ((t504.length : Int) != x13_4) = false := bne_eq_false_iff_eq.mpr c60
                                          clear c60
                                          by_cases c61 : 0 ≤ x13_4
                                          · rw [if_pos c61] at H
                                            have c61b0 := eq_true c61
                                            have c61b1 : decide (0 ≤ x13_4) = true := decide_eq_true c61
                                            clear c61
                                            by_cases c62 : x13_4 ≤ (l0.length : Int)
                                            · rw [if_pos c62] at H
                                              have c62b0 := eq_true c62
                                              have c62b1 : decide (x13_4 ≤ (l0.length : Int)) = true := decide_eq_true c62
                                              clear c62
                                              obtain ⟨y512, hy512⟩ : ∃ y_ : List (S68), y_ = (l0.take (x13_4 : Int).toNat) := ⟨_, rfl⟩
                                              replace H : ((horariumref47_Same.f k4 t504 y512).bind fun t516 => (if t516 = true then (if t505 = x14_4 then ((horariumlaw47_heads.f k4).bind fun t517 => (some t517)) else (some false)) else (some false))) = some r := by first | (rw [hy512]; with_reducible exact H) | (have H2_ := (Option.bind_some _ _).symm.trans H; rw [hy512]; with_reducible exact H2_) | (have H2_ := (Option.bind_some _ _).symm.trans H; with_reducible exact H2_) | with_reducible exact H | (rw [hy512]; exact H) | exact H
                                              have Ny512 := Aside0.mk hy512
                                              clear hy512
                                              replace H := Option.bind_eq_some_iff.mp H
                                              obtain ⟨t516, A630, H⟩ := H
                                              replace H : (if t516 = true then (if t505 = x14_4 then ((horariumlaw47_heads.f k4).bind fun t517 => (some t517)) else (some false)) else (some false)) = some r := H
                                              have A63 := Aside0.mk A630
                                              clear A630
                                              by_cases c64 : t516 = true
                                              · subst c64
                                                have H1 : (if t505 = x14_4 then ((horariumlaw47_heads.f k4).bind fun t517 => (some t517)) else (some false)) = some r := by rw [if_pos rfl] at H; exact H
                                                clear H
                                                have H := H1
                                                clear H1
                                                by_cases c65 : t505 = x14_4
                                                · rw [if_pos c65] at H
                                                  have c65b0 : (t505 == x14_4) = true := beq_iff_eq.mpr c65
                                                  have c65b1 : (t505 != x14_4) = false := bne_eq_false_iff_eq.mpr c65
                                                  clear c65
                                                  replace H := Option.bind_eq_some_iff.mp H
                                                  obtain ⟨t517, A660, H⟩ := H
                                                  replace H : (some t517) = some r := H
                                                  have A66 := Aside0.mk A660
                                                  clear A660
                                                  obtain rfl := Option.some.inj H
                                                  have p508 : 0 ≤ (x15_4 : Int) := of_decide_eq_true (by first | (with_reducible assumption) | assumption)
                                                  have q508 : x15_4 < (l0.length : Int) := of_decide_eq_true (by first | (with_reducible assumption) | assumption)
                                                  obtain ⟨ad508, A508_1, c508_1, e508, hx508_0, hx508_1, hl508_1, hi508_1⟩ := at_T68 HR0.out x15_4 p508 q508
                                                  cases e508
                                                  replace hx508_0 := (HB.out.cell (World.block_lt_of_cell? w _ hx508_0)).trans hx508_0
                                                  replace hx508_1 := (HB.out.cell (World.block_lt_of_cell? w _ hx508_1)).trans hx508_1
                                                  have HR508_1 := Aside0.mk hi508_1
                                                  have HC508_1 := Aside0.mk hl508_1
                                                  clear hi508_1 hl508_1
                                                  replace p508 := eq_true p508
                                                  replace q508 := eq_true q508
                                                  go_wp2_with (first | (go_at_call 104; (with_reducible refine (log_Size.calls k4 ((rd_T68 l0 x15_4).f0) _ _ ((rd_T68 l0 x15_4).f1) t509 _ ?side1 ?side2 A55.out).mono ?_); (case side1 => repeat (first | exact (Kd.C_below HR508_1.out HB.out) | (with_reducible refine Kd.C_alloc ?_ _) | (with_reducible refine Kd.C_drewN ?_ _) | (with_reducible refine Kd.C_drew ?_))); (case side2 => exact HC508_1.out); rintro e w67 ⟨rfl, hb⟩; have n0_ := Aside0.mk (Kd.S_below (by (with_reducible repeat (first | apply Kd.S_alloc | apply Kd.S_drewN | apply Kd.S_drew)); exact HO_11.out) hb); have n1_ := Aside0.mk (Kd.C_below (by repeat (first | (with_reducible exact HR503.out) | (with_reducible refine Kd.C_alloc ?_ _) | (with_reducible refine Kd.C_drewN ?_ _) | (with_reducible refine Kd.C_drew ?_) | exact HR503.out)) hb); have n2_ := Aside0.mk (below_step (by repeat (first | (with_reducible first | exact HB.out | apply below_alloc | apply pw_below_drewN | apply below_drew1) | exact HB.out)) hb); clear HO_11; clear HR503; clear HB; have HO_11 := n0_; have HR503 := n1_; have HB := n2_; clear n0_ n1_ n2_; (try clear hb); (try clear hb2); (try clear hk); (try clear hi); obtain ⟨Ao68, co68, eo68⟩ := Kd.S_slice HO_11.out; subst eo68; have q69 : (x13_4 : Int) ≤ ((l0.length : Int) : Int) := of_decide_eq_true (by first | (with_reducible assumption) | assumption); obtain ⟨i069, hi069, _, hsz69, _⟩ := info_parts info68; have hroom69 : l0.length ≤ c0 := HC0.out; have hC69 : Kd.C k68 _ (some ad508) l0.length l0 := HR0.out; have hcut69 := cut_to (P := Try.prog) 66 68 .i64 Try.underlying66 hi069 (some ad508) l0.length c0 x13_4 (of_decide_eq_true (by first | (with_reducible assumption) | assumption)) q69 hroom69; have hr69 := Kd.C_take (m := (x13_4 : Int).toNat) hC69 (by omega); have hy69 : y512.length = (x13_4 : Int).toNat := (by rw [Ny512.out, List.length_take]; omega); rw [← Ny512.out] at hr69; rw [← hy69] at hcut69; have HR515 := Aside0.mk hr69; have HC515 := Aside0.mk (show y512.length ≤ c0 from by omega); clear hr69 hC69 hroom69 hi069 hsz69; have KY69 := Aside0.mk hy69; clear hy69; replace q69 := eq_true q69) | (go_at_call 68; (with_reducible refine (horariumref47_Same.calls k4 _ _ t504 _ _ y512 true _ ?side1 ?side2 ?side3 ?side4 A63.out).mono ?_); (case side1 => repeat (first | exact (Kd.S_reads' HO_11.out).2.2 | (with_reducible refine Kd.C_alloc ?_ _) | (with_reducible refine Kd.C_drewN ?_ _) | (with_reducible refine Kd.C_drew ?_))); (case side2 => exact (Kd.S_reads' HO_11.out).2.1); (case side3 => repeat (first | exact (Kd.C_below HR515.out HB.out) | (with_reducible refine Kd.C_alloc ?_ _) | (with_reducible refine Kd.C_drewN ?_ _) | (with_reducible refine Kd.C_drew ?_))); (case side4 => exact HC515.out); rintro e w' ⟨rfl, ⟨nd, rfl⟩⟩) | (go_at_call 101; (with_reducible refine (horariumlaw47_heads.calls k4  t517 _ A66.out).mono ?_); rintro e w70 ⟨rfl, hb⟩; have n0_ := Aside0.mk (Kd.S_below (by (with_reducible repeat (first | apply Kd.S_alloc | apply Kd.S_drewN | apply Kd.S_drew)); exact HO_11.out) hb); have n1_ := Aside0.mk (Kd.C_below (by repeat (first | (with_reducible exact HR503.out) | (with_reducible refine Kd.C_alloc ?_ _) | (with_reducible refine Kd.C_drewN ?_ _) | (with_reducible refine Kd.C_drew ?_) | exact HR503.out)) hb); have n2_ := Aside0.mk (below_step (by repeat (first | (with_reducible first | exact HB.out | apply below_alloc | apply pw_below_drewN | apply below_drew1) | exact HB.out)) hb); clear HO_11; clear HR503; clear HB; have HO_11 := n0_; have HR503 := n1_; have HB := n2_; clear n0_ n1_ n2_; (try clear hb); (try clear hb2); (try clear hk); (try clear hi)))
                                                  go_ret
                                                  exact ⟨by first | rfl | (simp [errW_none, errW_some] <;> rfl) | (simp [*, errW_none, errW_some] <;> rfl), by repeat (first | (with_reducible first | exact HB.out | apply below_alloc | apply pw_below_drewN | apply below_drew1) | exact HB.out)⟩
                                                · rw [if_neg c65] at H
                                                  exact absurd ((Option.some.inj H).trans hr_) Bool.false_ne_true
                                              · replace c64 := Bool.eq_false_iff.mpr c64
                                                subst c64
                                                have H1 : (some false) = some r := by rw [if_neg (show ¬ (false = true) by decide)] at H; exact H
                                                clear H
                                                have H := H1
                                                clear H1
                                                exact absurd ((Option.some.inj H).trans hr_) Bool.false_ne_true
                                            · rw [if_neg c62] at H
                                              exact absurd H (by simp)
                                          · rw [if_neg c61] at H
                                            exact absurd H (by simp)
                                        · rw [if_neg c60] at H
                                          exact absurd ((Option.some.inj H).trans hr_) Bool.false_ne_true
                                    · rw [if_neg c54] at H
                                      exact absurd H (by simp)
                                  · rw [if_neg c53] at H
                                    have c53b0 : decide (x15_4 < (l0.length : Int)) = false := decide_eq_false c53
                                    clear c53
                                    by_cases c79 : (t504.length : Int) = x13_4
                                    · rw [if_pos c79] at H
                                      have c79b0 : ((t504.length : Int) == x13_4) = true := beq_iff_eq.mpr c79
                                      have c79b1 : ((t504.length : Int) != x13_4) = false := bne_eq_false_iff_eq.mpr c79
                                      clear c79
                                      by_cases c80 : 0 ≤ x13_4
                                      · rw [if_pos c80] at H
                                        have c80b0 := eq_true c80
                                        have c80b1 : decide (0 ≤ x13_4) = true := decide_eq_true c80
                                        clear c80
                                        by_cases c81 : x13_4 ≤ (l0.length : Int)
                                        · rw [if_pos c81] at H
                                          have c81b0 := eq_true c81
                                          have c81b1 : decide (x13_4 ≤ (l0.length : Int)) = true := decide_eq_true c81
                                          clear c81
                                          obtain ⟨y518, hy518⟩ : ∃ y_ : List (S68), y_ = (l0.take (x13_4 : Int).toNat) := ⟨_, rfl⟩
                                          replace H : ((horariumref47_Same.f k4 t504 y518).bind fun t522 => (if t522 = true then (if t505 = x14_4 then ((horariumlaw47_heads.f k4).bind fun t523 => (some t523)) else (some false)) else (some false))) = some r := by first | (rw [hy518]; with_reducible exact H) | (have H2_ := (Option.bind_some _ _).symm.trans H; rw [hy518]; with_reducible exact H2_) | (have H2_ := (Option.bind_some _ _).symm.trans H; with_reducible exact H2_) | with_reducible exact H | (rw [hy518]; exact H) | exact H
                                          have Ny518 := Aside0.mk hy518
                                          clear hy518
                                          replace H := Option.bind_eq_some_iff.mp H
                                          obtain ⟨t522, A820, H⟩ := H
                                          replace H : (if t522 = true then (if t505 = x14_4 then ((horariumlaw47_heads.f k4).bind fun t523 => (some t523)) else (some false)) else (some false)) = some r := H
                                          have A82 := Aside0.mk A820
                                          clear A820
                                          by_cases c83 : t522 = true
                                          · subst c83
                                            have H1 : (if t505 = x14_4 then ((horariumlaw47_heads.f k4).bind fun t523 => (some t523)) else (some false)) = some r := by rw [if_pos rfl] at H; exact H
                                            clear H
                                            have H := H1
                                            clear H1
                                            by_cases c84 : t505 = x14_4
                                            · rw [if_pos c84] at H
                                              have c84b0 : (t505 == x14_4) = true := beq_iff_eq.mpr c84
                                              have c84b1 : (t505 != x14_4) = false := bne_eq_false_iff_eq.mpr c84
                                              clear c84
                                              replace H := Option.bind_eq_some_iff.mp H
                                              obtain ⟨t523, A850, H⟩ := H
                                              replace H : (some t523) = some r := H
                                              have A85 := Aside0.mk A850
                                              clear A850
                                              obtain rfl := Option.some.inj H
                                              obtain ⟨Ao86, co86, eo86⟩ := Kd.S_slice HO_11.out
                                              subst eo86
                                              have q87 : (x13_4 : Int) ≤ ((l0.length : Int) : Int) := of_decide_eq_true (by first | (with_reducible assumption) | assumption)
                                              obtain ⟨i087, hi087, _, hsz87, _⟩ := info_parts info68
                                              have hroom87 : l0.length ≤ c0 := HC0.out
                                              have hC87 : Kd.C k68 _ A0 l0.length l0 := HR0.out
                                              have hcut87 := cut_to (P := Try.prog) 66 68 .i64 Try.underlying66 hi087 A0 l0.length c0 x13_4 (of_decide_eq_true (by first | (with_reducible assumption) | assumption)) q87 hroom87
                                              have hr87 := Kd.C_take (m := (x13_4 : Int).toNat) hC87 (by omega)
                                              have hy87 : y518.length = (x13_4 : Int).toNat := (by rw [Ny518.out, List.length_take]; omega)
                                              rw [← Ny518.out] at hr87
                                              rw [← hy87] at hcut87
                                              have HR521 := Aside0.mk hr87
                                              have HC521 := Aside0.mk (show y518.length ≤ c0 from by omega)
                                              clear hr87 hC87 hroom87 hi087 hsz87
                                              have KY87 := Aside0.mk hy87
                                              clear hy87
                                              replace q87 := eq_true q87
                                              go_wp2_with (first | (go_at_call 68; (with_reducible refine (horariumref47_Same.calls k4 _ _ t504 _ _ y518 true _ ?side1 ?side2 ?side3 ?side4 A82.out).mono ?_); (case side1 => repeat (first | exact (Kd.S_reads' HO_11.out).2.2 | (with_reducible refine Kd.C_alloc ?_ _) | (with_reducible refine Kd.C_drewN ?_ _) | (with_reducible refine Kd.C_drew ?_))); (case side2 => exact (Kd.S_reads' HO_11.out).2.1); (case side3 => repeat (first | exact (Kd.C_below HR521.out HB.out) | (with_reducible refine Kd.C_alloc ?_ _) | (with_reducible refine Kd.C_drewN ?_ _) | (with_reducible refine Kd.C_drew ?_))); (case side4 => exact HC521.out); rintro e w' ⟨rfl, ⟨nd, rfl⟩⟩) | (go_at_call 101; (with_reducible refine (horariumlaw47_heads.calls k4  t523 _ A85.out).mono ?_); rintro e w88 ⟨rfl, hb⟩; have n0_ := Aside0.mk (Kd.S_below (by (with_reducible repeat (first | apply Kd.S_alloc | apply Kd.S_drewN | apply Kd.S_drew)); exact HO_11.out) hb); have n1_ := Aside0.mk (Kd.C_below (by repeat (first | (with_reducible exact HR503.out) | (with_reducible refine Kd.C_alloc ?_ _) | (with_reducible refine Kd.C_drewN ?_ _) | (with_reducible refine Kd.C_drew ?_) | exact HR503.out)) hb); have n2_ := Aside0.mk (below_step (by repeat (first | (with_reducible first | exact HB.out | apply below_alloc | apply pw_below_drewN | apply below_drew1) | exact HB.out)) hb); clear HO_11; clear HR503; clear HB; have HO_11 := n0_; have HR503 := n1_; have HB := n2_; clear n0_ n1_ n2_; (try clear hb); (try clear hb2); (try clear hk); (try clear hi)))
                                              go_ret
                                              exact ⟨by first | rfl | (simp [errW_none, errW_some] <;> rfl) | (simp [*, errW_none, errW_some] <;> rfl), by repeat (first | (with_reducible first | exact HB.out | apply below_alloc | apply pw_below_drewN | apply below_drew1) | exact HB.out)⟩
                                            · rw [if_neg c84] at H
                                              exact absurd ((Option.some.inj H).trans hr_) Bool.false_ne_true
                                          · replace c83 := Bool.eq_false_iff.mpr c83
                                            subst c83
                                            have H1 : (some false) = some r := by rw [if_neg (show ¬ (false = true) by decide)] at H; exact H
                                            clear H
                                            have H := H1
                                            clear H1
                                            exact absurd ((Option.some.inj H).trans hr_) Bool.false_ne_true
                                        · rw [if_neg c81] at H
                                          exact absurd H (by simp)
                                      · rw [if_neg c80] at H
                                        exact absurd H (by simp)
                                    · rw [if_neg c79] at H
                                      exact absurd ((Option.some.inj H).trans hr_) Bool.false_ne_true
                            · rw [if_neg c49] at H
                              exact absurd H (by simp)
                          · rw [if_neg c48] at H
                            exact absurd H (by simp)
            · rw [if_neg c15] at H
              exact absurd H (by simp)
          · rw [if_neg c14] at H
            exact absurd H (by simp)
        · rw [if_neg c13] at H
          have c13b0 : (t477 == 0) = false := beq_eq_false_iff_ne.mpr c13
          have c13b1 : (t477 != 0) = true := bne_iff_ne.mpr c13
          by_cases c94 : t477 = 2
          · rw [if_pos c94] at H
            have c94b0 : (t477 == 2) = true := beq_iff_eq.mpr c94
            have c94b1 : (t477 != 2) = false := bne_eq_false_iff_eq.mpr c94
            clear c94
            by_cases c95 : (t476.length : Int) = 0
            · rw [if_pos c95] at H
              have c95b0 : ((t476.length : Int) == 0) = true := beq_iff_eq.mpr c95
              have c95b1 : ((t476.length : Int) != 0) = false := bne_eq_false_iff_eq.mpr c95
              clear c95
              replace H := Option.bind_eq_some_iff.mp H
              obtain ⟨t480, A960, H⟩ := H
              replace H : (some t480) = some r := H
              have A96 := Aside0.mk A960
              clear A960
              obtain rfl := Option.some.inj H
              go_wp2_with (first | ((with_reducible refine gate_callee (f := 102) rfl ?_); refine goesL_ (some 27) rfl rfl Try.func102 (by kernel_rfl) rfl #[.slice A0 l0.length c0] rfl (by (try simp only [List.map_toArray, List.map_cons, List.map_nil]); first | done | rfl | (simp only [List.length_drop, List.length_take]; rfl)) ?_; (with_reducible refine (log_Write.calls kj3 _ _ l0 t476 t477 _ ?side1 ?side2 A12.out).mono ?_); (case side1 => repeat (first | exact (Kd.C_below HR0.out HB.out) | (with_reducible refine Kd.C_alloc ?_ _) | (with_reducible refine Kd.C_drewN ?_ _) | (with_reducible refine Kd.C_drew ?_))); (case side2 => exact HC0.out); rintro e w97 ⟨v478, rfl, ho0, hb⟩; refine ⟨_, rfl, ?_⟩; have n0_ := Aside0.mk (Kd.R_lower ho0 (below_size (by repeat (first | (with_reducible first | exact HB.out | apply below_alloc | apply pw_below_drewN | apply below_drew1) | exact HB.out)))); have n1_ := Aside0.mk (below_step (by repeat (first | (with_reducible first | exact HB.out | apply below_alloc | apply pw_below_drewN | apply below_drew1) | exact HB.out)) hb); clear HB; have HO479 := n0_; have HB := n1_; clear n0_ n1_; (try clear hb); (try clear hb2); (try clear hk); (try clear hi); (try clear ho0); obtain ⟨Ao98, co98, eo98⟩ := Kd.R_slice HO479.out; subst eo98) | (go_at_call 101; (with_reducible refine (horariumlaw47_heads.calls kj3  t480 _ A96.out).mono ?_); rintro e w99 ⟨rfl, hb⟩; have n0_ := Aside0.mk (Kd.R_below (by (with_reducible repeat (first | apply Kd.R_alloc | apply Kd.R_drewN | apply Kd.R_drew)); exact HO479.out) hb); have n1_ := Aside0.mk (below_step (by repeat (first | (with_reducible first | exact HB.out | apply below_alloc | apply pw_below_drewN | apply below_drew1) | exact HB.out)) hb); clear HO479; clear HB; have HO479 := n0_; have HB := n1_; clear n0_ n1_; (try clear hb); (try clear hb2); (try clear hk); (try clear hi)))
              go_ret
              exact ⟨by first | rfl | (simp [errW_none, errW_some] <;> rfl) | (simp [*, errW_none, errW_some] <;> rfl), by repeat (first | (with_reducible first | exact HB.out | apply below_alloc | apply pw_below_drewN | apply below_drew1) | exact HB.out)⟩
            · rw [if_neg c95] at H
              exact absurd ((Option.some.inj H).trans hr_) Bool.false_ne_true
          · rw [if_neg c94] at H
            exact absurd ((Option.some.inj H).trans hr_) Bool.false_ne_true
end Go.Proofs.Ytccjdefhieilpaa.PL
