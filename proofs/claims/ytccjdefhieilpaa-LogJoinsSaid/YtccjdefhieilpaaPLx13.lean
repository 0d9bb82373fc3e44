-- Written by a program of this session (wip/tools/patch_print.py over the print of the kit)
import Derived.Test.YtccjdefhieilpaaPLx0
import Derived.Test.YtccjdefhieilpaaPLx2
import Derived.Test.YtccjdefhieilpaaPLx3
import Derived.Test.YtccjdefhieilpaaPLx4
import Derived.Test.YtccjdefhieilpaaLogBase
namespace Go.Proofs.Ytccjdefhieilpaa.PL
open Go.RowKit Go.Proofs.YtccjdefhieilpaaW.PrintWords Go.Proofs.YtccjdefhieilpaaW.PrintLast Go.Proofs.YtccjdefhieilpaaW.PrintMore Go.Proofs.Ytccjdefhieilpaa.PB
attribute [local go_sem] max2_int min2_int max_two min_two max_three min_three max_four min_four   -- for this text's walks alone
set_option linter.unusedVariables false
set_option linter.unusedSimpArgs false

/-! ### horariumlaw47_LogJoins: function 26 -/
mutual
def horariumlaw47_LogJoins.j0 : Nat → List (S68) → List (S68) → List (S68) → Bool → Option (Bool)
  | 0, _, _, _, _ => none
  | k + 1, x0, x1, x2, x20 => if x20 = true then ((horariumlaw47_heads.f k).bind fun t254 => (some t254)) else ((log_Write.f k x0).bind fun bt255 => ((log_Write.f k x1).bind fun bt259 => ((if x0.length + x1.length ≤ 1000 then log_Write.f k x2 else none).bind fun bt263 => (if bt255.2 = 0 then (horariumlaw47_LogJoins.j1 k x0 bt255.1 bt259.1 bt263.1 bt263.2 (bt259.2 != 0)) else (horariumlaw47_LogJoins.j1 k x0 bt255.1 bt259.1 bt263.1 bt263.2 true)))))
def horariumlaw47_LogJoins.j1 : Nat → List (S68) → List Int → List Int → List Int → Int → Bool → Option (Bool)
  | 0, _, _, _, _, _, _ => none
  | k + 1, x0, x5, x7, x9, x10, x46 => if x46 = true then (if x10 = 2 then (if (x9.length : Int) = 0 then ((horariumlaw47_heads.f k).bind fun t267 => (some t267)) else (some false)) else (some false)) else (horariumlaw47_LogJoins.l0 k x0 x5 x7 x9 x10 0 0)
def horariumlaw47_LogJoins.l0 : Nat → List (S68) → List Int → List Int → List Int → Int → Int → Int → Option (Bool)
  | 0, _, _, _, _, _, _, _ => none
  | k + 1, x0, x5, x7, x9, x10, x11, x12 => if x12 < (x0.length : Int) then (if 0 ≤ x12 then ((log_Size.f k ((rd_T68 x0 x12).f0) ((rd_T68 x0 x12).f1)).bind fun t269 => (horariumlaw47_LogJoins.l0 k x0 x5 x7 x9 x10 (wrap64 (x11 + t269)) (wrap64 (x12 + 1)))) else (none)) else (if x10 = 0 then (if (strOfNums x5).size + (strOfNums x7).size ≤ 9223372036854775807 then (if (strOfNums x9).toList = ((strOfNums x5) ++ (strOfNums x7)).toList then (if x11 = (x5.length : Int) then ((horariumlaw47_heads.f k).bind fun t270 => (some t270)) else (some false)) else (some false)) else (none)) else (some false))
end
def horariumlaw47_LogJoins.f (k : Nat) (l0 : List (S68)) (l1 : List (S68)) (l2 : List (S68)) : Option (Bool) := (horariumlaw47_few.f k l0).bind fun t252 => (if t252 = true then ((horariumlaw47_few.f k l1).bind fun t253 => (horariumlaw47_LogJoins.j0 k l0 l1 l2 (!t253))) else (horariumlaw47_LogJoins.j0 k l0 l1 l2 true))
theorem horariumlaw47_LogJoins.mono_l : ∀ k, (∀ y0 y1 y2 y3, LeO (horariumlaw47_LogJoins.j0 k y0 y1 y2 y3) (horariumlaw47_LogJoins.j0 (k + 1) y0 y1 y2 y3)) ∧ (∀ y0 y1 y2 y3 y4 y5, LeO (horariumlaw47_LogJoins.j1 k y0 y1 y2 y3 y4 y5) (horariumlaw47_LogJoins.j1 (k + 1) y0 y1 y2 y3 y4 y5)) ∧ (∀ y0 y1 y2 y3 y4 y5 y6, LeO (horariumlaw47_LogJoins.l0 k y0 y1 y2 y3 y4 y5 y6) (horariumlaw47_LogJoins.l0 (k + 1) y0 y1 y2 y3 y4 y5 y6))
  | 0 => ⟨fun _ _ _ _ r h => by simp [horariumlaw47_LogJoins.j0] at h, fun _ _ _ _ _ _ r h => by simp [horariumlaw47_LogJoins.j1] at h, fun _ _ _ _ _ _ _ r h => by simp [horariumlaw47_LogJoins.l0] at h⟩
  | k + 1 => by
    obtain ⟨ih0, ih1, ih2⟩ := horariumlaw47_LogJoins.mono_l k
    refine ⟨?_, ?_, ?_⟩
    · intro y0 y1 y2 y3
      unfold horariumlaw47_LogJoins.j0
      repeat' first
      | (with_reducible exact ih0 _ _ _ _)
      | (with_reducible exact ih1 _ _ _ _ _ _)
      | (with_reducible exact ih2 _ _ _ _ _ _ _)
      | (with_reducible exact horariumlaw47_few.mono _ _)
      | (with_reducible exact horariumlaw47_heads.mono _)
      | (with_reducible exact log_Size.mono _ _ _)
      | (with_reducible exact log_Write.mono _ _)
      | (with_reducible exact LeO.refl _)
      | (with_reducible exact LeO.none _)
      | (with_reducible refine LeO.ite ?_ ?_)
      | (with_reducible refine LeO.bind ?_ (fun _ => ?_))
      | exact ih0 _ _ _ _
      | exact ih1 _ _ _ _ _ _
      | exact ih2 _ _ _ _ _ _ _
      | exact horariumlaw47_few.mono _ _
      | exact horariumlaw47_heads.mono _
      | exact log_Size.mono _ _ _
      | exact log_Write.mono _ _
      | exact LeO.none _
      | refine LeO.ite ?_ ?_
      | refine LeO.bind ?_ (fun _ => ?_)
    · intro y0 y1 y2 y3 y4 y5
      unfold horariumlaw47_LogJoins.j1
      repeat' first
      | (with_reducible exact ih0 _ _ _ _)
      | (with_reducible exact ih1 _ _ _ _ _ _)
      | (with_reducible exact ih2 _ _ _ _ _ _ _)
      | (with_reducible exact horariumlaw47_few.mono _ _)
      | (with_reducible exact horariumlaw47_heads.mono _)
      | (with_reducible exact log_Size.mono _ _ _)
      | (with_reducible exact log_Write.mono _ _)
      | (with_reducible exact LeO.refl _)
      | (with_reducible exact LeO.none _)
      | (with_reducible refine LeO.ite ?_ ?_)
      | (with_reducible refine LeO.bind ?_ (fun _ => ?_))
      | exact ih0 _ _ _ _
      | exact ih1 _ _ _ _ _ _
      | exact ih2 _ _ _ _ _ _ _
      | exact horariumlaw47_few.mono _ _
      | exact horariumlaw47_heads.mono _
      | exact log_Size.mono _ _ _
      | exact log_Write.mono _ _
      | exact LeO.none _
      | refine LeO.ite ?_ ?_
      | refine LeO.bind ?_ (fun _ => ?_)
    · intro y0 y1 y2 y3 y4 y5 y6
      unfold horariumlaw47_LogJoins.l0
      repeat' first
      | (with_reducible exact ih0 _ _ _ _)
      | (with_reducible exact ih1 _ _ _ _ _ _)
      | (with_reducible exact ih2 _ _ _ _ _ _ _)
      | (with_reducible exact horariumlaw47_few.mono _ _)
      | (with_reducible exact horariumlaw47_heads.mono _)
      | (with_reducible exact log_Size.mono _ _ _)
      | (with_reducible exact log_Write.mono _ _)
      | (with_reducible exact LeO.refl _)
      | (with_reducible exact LeO.none _)
      | (with_reducible refine LeO.ite ?_ ?_)
      | (with_reducible refine LeO.bind ?_ (fun _ => ?_))
      | exact ih0 _ _ _ _
      | exact ih1 _ _ _ _ _ _
      | exact ih2 _ _ _ _ _ _ _
      | exact horariumlaw47_few.mono _ _
      | exact horariumlaw47_heads.mono _
      | exact log_Size.mono _ _ _
      | exact log_Write.mono _ _
      | exact LeO.none _
      | refine LeO.ite ?_ ?_
      | refine LeO.bind ?_ (fun _ => ?_)
theorem horariumlaw47_LogJoins.mono : ∀ a0 a1 a2 k, LeO (horariumlaw47_LogJoins.f k a0 a1 a2) (horariumlaw47_LogJoins.f (k + 1) a0 a1 a2) := by
  intro a0 a1 a2 k
  obtain ⟨ih0, ih1, ih2⟩ := horariumlaw47_LogJoins.mono_l k
  unfold horariumlaw47_LogJoins.f
  repeat' first
      | (with_reducible exact ih0 _ _ _ _)
      | (with_reducible exact ih1 _ _ _ _ _ _)
      | (with_reducible exact ih2 _ _ _ _ _ _ _)
      | (with_reducible exact horariumlaw47_few.mono _ _)
      | (with_reducible exact horariumlaw47_heads.mono _)
      | (with_reducible exact log_Size.mono _ _ _)
      | (with_reducible exact log_Write.mono _ _)
      | (with_reducible exact LeO.refl _)
      | (with_reducible exact LeO.none _)
      | (with_reducible refine LeO.ite ?_ ?_)
      | (with_reducible refine LeO.bind ?_ (fun _ => ?_))
      | exact ih0 _ _ _ _
      | exact ih1 _ _ _ _ _ _
      | exact ih2 _ _ _ _ _ _ _
      | exact horariumlaw47_few.mono _ _
      | exact horariumlaw47_heads.mono _
      | exact log_Size.mono _ _ _
      | exact log_Write.mono _ _
      | exact LeO.none _
      | refine LeO.ite ?_ ?_
      | refine LeO.bind ?_ (fun _ => ?_)
set_option maxHeartbeats 8000000 in
set_option maxRecDepth 100000 in
theorem horariumlaw47_LogJoins.calls (k : Nat) (A0 : Option Addr) (c0 : Nat) (l0 : List (S68)) (A1 : Option Addr) (c1 : Nat) (l1 : List (S68)) (l2 : List (S68)) (hl2 : l2 = l0 ++ l1) (r : Bool) (hr_ : r = true) (w : World) (hr0 : Kd.C k68 w A0 l0.length l0) (hc0 : l0.length ≤ c0) (hr1 : Kd.C k68 w A1 l1.length l1) (hc1 : l1.length ≤ c1) (h : horariumlaw47_LogJoins.f k l0 l1 l2 = some r) :
    Calls Try.prog 26 #[.slice A0 l0.length c0, .slice A1 l1.length c1] w fun e w' => e = .returned (.bool r) ∧ Below w.heap.size w w' := by
  have hu68 := Try.underlying68
  have HR0 := Aside0.mk hr0
  have HC0 := Aside0.mk hc0
  clear hr0 hc0
  have HR1 := Aside0.mk hr1
  have HC1 := Aside0.mk hc1
  clear hr1 hc1
  have HL2 := Aside0.mk hl2
  clear hl2
  have HB := Aside0.mk (Below.refl w.heap.size w)
  have H : ((horariumlaw47_few.f k l0).bind fun t252 => (if t252 = true then ((horariumlaw47_few.f k l1).bind fun t253 => (horariumlaw47_LogJoins.j0 k l0 l1 l2 (!t253))) else (horariumlaw47_LogJoins.j0 k l0 l1 l2 true))) = some r := h
  clear h
  have HC4 := Aside0.mk H
  clear H
  go_enter Try.func26, Try.ntmps26
  go_upto_region 1 with (fail)
  go_cut [20] (fun v20 wc => ∃ (kq : Nat) (x20_3 : Bool), v20 = .bool x20_3 ∧ Aside0 (horariumlaw47_LogJoins.j0 kq l0 l1 l2 x20_3 = some r) ∧ Aside0 (kq ≤ k) ∧ Aside0 (Below w.heap.size w wc))
  case first =>
    have H := HC4.out
    clear HC4
    replace H := Option.bind_eq_some_iff.mp H
    obtain ⟨t252, A50, H⟩ := H
    replace H : (if t252 = true then ((horariumlaw47_few.f k l1).bind fun t253 => (horariumlaw47_LogJoins.j0 k l0 l1 l2 (!t253))) else (horariumlaw47_LogJoins.j0 k l0 l1 l2 true)) = some r := H
    have A5 := Aside0.mk A50
    clear A50
    by_cases c6 : t252 = true
    · subst c6
      have H1 : ((horariumlaw47_few.f k l1).bind fun t253 => (horariumlaw47_LogJoins.j0 k l0 l1 l2 (!t253))) = some r := by rw [if_pos rfl] at H; exact H
      clear H
      have H := H1
      clear H1
      replace H := Option.bind_eq_some_iff.mp H
      obtain ⟨t253, A70, H⟩ := H
      replace H : (horariumlaw47_LogJoins.j0 k l0 l1 l2 (!t253)) = some r := H
      have A7 := Aside0.mk A70
      clear A70
      have H' := Aside0.mk H
      clear H
      go_wp2_with (first | ((with_reducible refine gate_callee (f := 100) rfl ?_); refine goesL_ (some 14) rfl rfl Try.func100 (by kernel_rfl) rfl #[.slice A0 l0.length c0] rfl (by (try simp only [List.map_toArray, List.map_cons, List.map_nil]); first | done | rfl | (simp only [List.length_drop, List.length_take]; rfl)) ?_; (with_reducible refine (horariumlaw47_few.calls k _ _ l0 true _ ?side1 ?side2 A5.out).mono ?_); (case side1 => repeat (first | exact (Kd.C_below HR0.out HB.out) | (with_reducible refine Kd.C_alloc ?_ _) | (with_reducible refine Kd.C_drewN ?_ _) | (with_reducible refine Kd.C_drew ?_))); (case side2 => exact HC0.out); rintro e w8 ⟨rfl, hb⟩; refine ⟨_, rfl, ?_⟩; have n0_ := Aside0.mk (below_step (by repeat (first | (with_reducible first | exact HB.out | apply below_alloc | apply pw_below_drewN | apply below_drew1) | exact HB.out)) hb); clear HB; have HB := n0_; clear n0_; (try clear hb); (try clear hb2); (try clear hk); (try clear hi)) | (go_at_call 100; (with_reducible refine (horariumlaw47_few.calls k _ _ l1 t253 _ ?side1 ?side2 A7.out).mono ?_); (case side1 => repeat (first | exact (Kd.C_below HR1.out HB.out) | (with_reducible refine Kd.C_alloc ?_ _) | (with_reducible refine Kd.C_drewN ?_ _) | (with_reducible refine Kd.C_drew ?_))); (case side2 => exact HC1.out); rintro e w9 ⟨rfl, hb⟩; have n0_ := Aside0.mk (below_step (by repeat (first | (with_reducible first | exact HB.out | apply below_alloc | apply pw_below_drewN | apply below_drew1) | exact HB.out)) hb); clear HB; have HB := n0_; clear n0_; (try clear hb); (try clear hb2); (try clear hk); (try clear hi)))
      go_meet
      case rel => exact ⟨_, (!t253), (by first | rfl | (simp; done) | (simp [*]; done)), H', ⟨by first | omega | exact Nat.le_refl _⟩, ⟨by repeat (first | (with_reducible first | exact HB.out | apply below_alloc | apply pw_below_drewN | apply below_drew1) | exact HB.out)⟩⟩
    · replace c6 := Bool.eq_false_iff.mpr c6
      subst c6
      have H1 : (horariumlaw47_LogJoins.j0 k l0 l1 l2 true) = some r := by rw [if_neg (show ¬ (false = true) by decide)] at H; exact H
      clear H
      have H := H1
      clear H1
      have H' := Aside0.mk H
      clear H
      go_wp2_with (first | ((with_reducible refine gate_callee (f := 100) rfl ?_); refine goesL_ (some 14) rfl rfl Try.func100 (by kernel_rfl) rfl #[.slice A0 l0.length c0] rfl (by (try simp only [List.map_toArray, List.map_cons, List.map_nil]); first | done | rfl | (simp only [List.length_drop, List.length_take]; rfl)) ?_; (with_reducible refine (horariumlaw47_few.calls k _ _ l0 false _ ?side1 ?side2 A5.out).mono ?_); (case side1 => repeat (first | exact (Kd.C_below HR0.out HB.out) | (with_reducible refine Kd.C_alloc ?_ _) | (with_reducible refine Kd.C_drewN ?_ _) | (with_reducible refine Kd.C_drew ?_))); (case side2 => exact HC0.out); rintro e w10 ⟨rfl, hb⟩; refine ⟨_, rfl, ?_⟩; have n0_ := Aside0.mk (below_step (by repeat (first | (with_reducible first | exact HB.out | apply below_alloc | apply pw_below_drewN | apply below_drew1) | exact HB.out)) hb); clear HB; have HB := n0_; clear n0_; (try clear hb); (try clear hb2); (try clear hk); (try clear hi)))
      go_meet
      case rel => exact ⟨_, (true), (by first | rfl | (simp; done) | (simp [*]; done)), H', ⟨by first | omega | exact Nat.le_refl _⟩, ⟨by repeat (first | (with_reducible first | exact HB.out | apply below_alloc | apply pw_below_drewN | apply below_drew1) | exact HB.out)⟩⟩
  case rest =>
    clear HC4
    try clear c1
    try clear c2
    try clear p2
    try clear c6
    try clear c10
    obtain ⟨kq, x20_3, rfl, HA, HJ3, HB⟩ := hcut
    cases kq with
    | zero => exact absurd HA.out (by simp [horariumlaw47_LogJoins.j0])
    | succ kj3 =>
      have H := HA.out
      clear HA
      simp only [horariumlaw47_LogJoins.j0] at H
      by_cases c11 : x20_3 = true
      · subst c11
        have H1 : ((horariumlaw47_heads.f kj3).bind fun t254 => (some t254)) = some r := by rw [if_pos rfl] at H; exact H
        clear H
        have H := H1
        clear H1
        replace H := Option.bind_eq_some_iff.mp H
        obtain ⟨t254, A120, H⟩ := H
        replace H : (some t254) = some r := H
        have A12 := Aside0.mk A120
        clear A120
        obtain rfl := Option.some.inj H
        go_wp2_with (first | ((with_reducible refine gate_callee (f := 101) rfl ?_); refine goesL_ (some 21) rfl rfl Try.func101 (by kernel_rfl) rfl #[] rfl (by (try simp only [List.map_toArray, List.map_cons, List.map_nil]); first | done | rfl | (simp only [List.length_drop, List.length_take]; rfl)) ?_; (with_reducible refine (horariumlaw47_heads.calls kj3  t254 _ A12.out).mono ?_); rintro e w13 ⟨rfl, hb⟩; refine ⟨_, rfl, ?_⟩; have n0_ := Aside0.mk (below_step (by repeat (first | (with_reducible first | exact HB.out | apply below_alloc | apply pw_below_drewN | apply below_drew1) | exact HB.out)) hb); clear HB; have HB := n0_; clear n0_; (try clear hb); (try clear hb2); (try clear hk); (try clear hi)))
        go_ret
        exact ⟨by first | rfl | (simp [errW_none, errW_some] <;> rfl) | (simp [*, errW_none, errW_some] <;> rfl), by repeat (first | (with_reducible first | exact HB.out | apply below_alloc | apply pw_below_drewN | apply below_drew1) | exact HB.out)⟩
      · replace c11 := Bool.eq_false_iff.mpr c11
        subst c11
        have H1 : ((log_Write.f kj3 l0).bind fun bt255 => ((log_Write.f kj3 l1).bind fun bt259 => ((if l0.length + l1.length ≤ 1000 then log_Write.f kj3 l2 else none).bind fun bt263 => (if bt255.2 = 0 then (horariumlaw47_LogJoins.j1 kj3 l0 bt255.1 bt259.1 bt263.1 bt263.2 (bt259.2 != 0)) else (horariumlaw47_LogJoins.j1 kj3 l0 bt255.1 bt259.1 bt263.1 bt263.2 true))))) = some r := by rw [if_neg (show ¬ (false = true) by decide)] at H; exact H
        clear H
        have H := H1
        clear H1
        replace H := Option.bind_eq_some_iff.mp H
        obtain ⟨⟨t255, t256⟩, A140, H⟩ := H
        replace H : ((log_Write.f kj3 l1).bind fun bt259 => ((if l0.length + l1.length ≤ 1000 then log_Write.f kj3 l2 else none).bind fun bt263 => (if t256 = 0 then (horariumlaw47_LogJoins.j1 kj3 l0 t255 bt259.1 bt263.1 bt263.2 (bt259.2 != 0)) else (horariumlaw47_LogJoins.j1 kj3 l0 t255 bt259.1 bt263.1 bt263.2 true)))) = some r := H
        have A14 := Aside0.mk A140
        clear A140
        replace H := Option.bind_eq_some_iff.mp H
        obtain ⟨⟨t259, t260⟩, A150, H⟩ := H
        replace H : ((if l0.length + l1.length ≤ 1000 then log_Write.f kj3 l2 else none).bind fun bt263 => (if t256 = 0 then (horariumlaw47_LogJoins.j1 kj3 l0 t255 t259 bt263.1 bt263.2 (t260 != 0)) else (horariumlaw47_LogJoins.j1 kj3 l0 t255 t259 bt263.1 bt263.2 true))) = some r := H
        have A15 := Aside0.mk A150
        clear A150
        replace H := Option.bind_eq_some_iff.mp H
        obtain ⟨⟨t263, t264⟩, A160, H⟩ := H
        replace H : (if t256 = 0 then (horariumlaw47_LogJoins.j1 kj3 l0 t255 t259 t263 t264 (t260 != 0)) else (horariumlaw47_LogJoins.j1 kj3 l0 t255 t259 t263 t264 true)) = some r := H
        have hlen_ : l0.length + l1.length ≤ 1000 := Classical.byContradiction fun h_ => by rw [if_neg h_] at A160; exact absurd A160 (by simp)
        rw [if_pos hlen_] at A160
        have HLEN := Aside0.mk hlen_
        clear hlen_
        have A16 := Aside0.mk A160
        clear A160
        have HC17 := Aside0.mk H
        clear H
        go_upto_region 6 with (first | ((with_reducible refine gate_callee (f := 102) rfl ?_); refine goesL_ (some 24) rfl rfl Try.func102 (by kernel_rfl) rfl #[.slice A0 l0.length c0] rfl (by (try simp only [List.map_toArray, List.map_cons, List.map_nil]); first | done | rfl | (simp only [List.length_drop, List.length_take]; rfl)) ?_; (with_reducible refine (log_Write.calls kj3 _ _ l0 t255 t256 _ ?side1 ?side2 A14.out).mono ?_); (case side1 => repeat (first | exact (Kd.C_below HR0.out HB.out) | (with_reducible refine Kd.C_alloc ?_ _) | (with_reducible refine Kd.C_drewN ?_ _) | (with_reducible refine Kd.C_drew ?_))); (case side2 => exact HC0.out); rintro e w18 ⟨v257, rfl, ho0, hb⟩; refine ⟨_, rfl, ?_⟩; have n0_ := Aside0.mk (Kd.R_lower ho0 (below_size (by repeat (first | (with_reducible first | exact HB.out | apply below_alloc | apply pw_below_drewN | apply below_drew1) | exact HB.out)))); have n1_ := Aside0.mk (below_step (by repeat (first | (with_reducible first | exact HB.out | apply below_alloc | apply pw_below_drewN | apply below_drew1) | exact HB.out)) hb); clear HB; have HO258 := n0_; have HB := n1_; clear n0_ n1_; (try clear hb); (try clear hb2); (try clear hk); (try clear hi); (try clear ho0)) | ((with_reducible refine gate_callee (f := 102) rfl ?_); refine goesL_ (some 29) rfl rfl Try.func102 (by kernel_rfl) rfl #[.slice A1 l1.length c1] rfl (by (try simp only [List.map_toArray, List.map_cons, List.map_nil]); first | done | rfl | (simp only [List.length_drop, List.length_take]; rfl)) ?_; (with_reducible refine (log_Write.calls kj3 _ _ l1 t259 t260 _ ?side1 ?side2 A15.out).mono ?_); (case side1 => repeat (first | exact (Kd.C_below HR1.out HB.out) | (with_reducible refine Kd.C_alloc ?_ _) | (with_reducible refine Kd.C_drewN ?_ _) | (with_reducible refine Kd.C_drew ?_))); (case side2 => exact HC1.out); rintro e w19 ⟨v261, rfl, ho0, hb⟩; refine ⟨_, rfl, ?_⟩; have n0_ := Aside0.mk (Kd.R_elder' (by (with_reducible repeat (first | apply Kd.R_alloc | apply Kd.R_drewN | apply Kd.R_drew)); exact HO258.out) (Kd.R_base ho0) hb); have n1_ := Aside0.mk (Kd.R_lower (Kd.R_new' ho0 (Kd.R_lt (by (with_reducible repeat (first | apply Kd.R_alloc | apply Kd.R_drewN | apply Kd.R_drew)); exact HO258.out))) (below_size (by repeat (first | (with_reducible first | exact HB.out | apply below_alloc | apply pw_below_drewN | apply below_drew1) | exact HB.out)))); have n2_ := Aside0.mk (below_step (by repeat (first | (with_reducible first | exact HB.out | apply below_alloc | apply pw_below_drewN | apply below_drew1) | exact HB.out)) hb); clear HO258; clear HB; have HO258 := n0_; have HO262 := n1_; have HB := n2_; clear n0_ n1_ n2_; (try clear hb); (try clear hb2); (try clear hk); (try clear hi); (try clear ho0)) | ((with_reducible refine gate_dst (N := 33) rfl ?_); refine Kd.R_lit (lent68 w) _ 68 ?hg (N := 33) ?hd (xs := ([] : List S68)) (inner := []) (ok := fun _ => True) (okp := fun _ => True) ?hr ?hp (fun _ hk => hk) trivial (Below.refl w19.heap.size w19) (Nat.le_refl _) (by simp) ?_; (case hd => rfl); (case hg => rfl); (case hr => first | (go_simp; done) | (go_simp; rfl)); (case hp => exact (Reps.none _ _)); intro vE wE hoE hbE hg_ hnew_; clear hg_ hnew_; have HOE := Aside0.mk hoE; have HBE := Aside0.mk hbE; clear hoE hbE) | ((with_reducible refine gate_builtin (b := .append) (xs := #[.tmp 33, .tmp 34]) rfl ?_); at_builtin; refine Kd.R_append_rows (lent68 w) (Rr := (lent68 w).K wE) (w0 := w19) w19.heap.size rfl (.tmp 33) (.tmp 34) 66 68 (.agg #[(.int .i64 0), (.slice none 0 0)]) 32 rfl Try.underlying66 info68 rfl (Nat.succ_pos 1) (by omega) vE ([] : List S68) l0 A0 l0.length c0 (fun _ => True) (fun _ => False) rfl rfl HOE.out ?aR (fun _ _ h => h) (fun _ h => h.elim) (fun _ _ => trivial) HBE.out ?aS ?aL ?_; (case aR => exact Kd.C_below (C_lent HR0.out) (below_step HB.out HBE.out)); (case aS => exact HBE.out.size); (case aL => have := HLEN.out; simp only [List.length_nil, List.nil_append]; omega); intro vF wF hoF hbF hg_ hat_; clear hg_ hat_; have HOF := Aside0.mk hoF; have HBF := Aside0.mk hbF; clear hoF hbF HOE HBE) | ((with_reducible refine gate_builtin (b := .append) (xs := #[.tmp 35, .tmp 36]) rfl ?_); at_builtin; refine Kd.R_append_rows (lent68 w) (Rr := (lent68 w).K wF) (w0 := w19) w19.heap.size rfl (.tmp 35) (.tmp 36) 66 68 (.agg #[(.int .i64 0), (.slice none 0 0)]) 32 rfl Try.underlying66 info68 rfl (Nat.succ_pos 1) (by omega) vF ([] ++ l0) l1 A1 l1.length c1 (fun _ => True) (fun _ => False) rfl rfl HOF.out ?aR (fun _ _ h => h) (fun _ h => h.elim) (fun _ _ => trivial) HBF.out ?aS ?aL ?_; (case aR => exact Kd.C_below (C_lent HR1.out) (below_step HB.out HBF.out)); (case aS => exact HBF.out.size); (case aL => have := HLEN.out; simp only [List.length_nil, List.nil_append]; omega); intro vG wG hoG hbG hg_ hat_; clear hg_ hat_; rw [List.nil_append, ← HL2.out] at hoG; have hbw := below_step HB.out hbG; obtain ⟨Ao37, co37, eo37, hl37, hC37⟩ := lent68_reads hoG hbw; subst eo37; have HR2 := Aside0.mk hC37; have HC2 := Aside0.mk hl37; have n0_ := Aside0.mk (Kd.R_below HO258.out hbG); have n1_ := Aside0.mk (Kd.R_below HO262.out hbG); have n2_ := Aside0.mk hbw; clear HO258 HO262 HB HOF HBF hoG hbG hbw hl37 hC37; have HO258 := n0_; have HO262 := n1_; have HB := n2_; clear n0_ n1_ n2_) | ((with_reducible refine gate_callee (f := 102) rfl ?_); refine goesL_ (some 38) rfl rfl Try.func102 (by kernel_rfl) rfl #[.slice Ao37 l2.length co37] rfl (by (try simp only [List.map_toArray, List.map_cons, List.map_nil]); first | done | rfl | (simp only [List.length_drop, List.length_take]; rfl)) ?_; (with_reducible refine (log_Write.calls kj3 _ _ l2 t263 t264 _ ?side1 ?side2 A16.out).mono ?_); (case side1 => repeat (first | exact HR2.out | (with_reducible refine Kd.C_alloc ?_ _) | (with_reducible refine Kd.C_drewN ?_ _) | (with_reducible refine Kd.C_drew ?_))); (case side2 => exact HC2.out); rintro e w20 ⟨v265, rfl, ho0, hb⟩; refine ⟨_, rfl, ?_⟩; have n0_ := Aside0.mk (Kd.R_elder' (by (with_reducible repeat (first | apply Kd.R_alloc | apply Kd.R_drewN | apply Kd.R_drew)); exact HO258.out) (Kd.R_base ho0) hb); have n1_ := Aside0.mk (Kd.R_elder' (by (with_reducible repeat (first | apply Kd.R_alloc | apply Kd.R_drewN | apply Kd.R_drew)); exact HO262.out) (Kd.R_base ho0) hb); have n2_ := Aside0.mk (Kd.R_lower (Kd.R_new' (Kd.R_new' ho0 (Kd.R_lt (by (with_reducible repeat (first | apply Kd.R_alloc | apply Kd.R_drewN | apply Kd.R_drew)); exact HO258.out))) (Kd.R_lt (by (with_reducible repeat (first | apply Kd.R_alloc | apply Kd.R_drewN | apply Kd.R_drew)); exact HO262.out))) (below_size (by repeat (first | (with_reducible first | exact HB.out | apply below_alloc | apply pw_below_drewN | apply below_drew1) | exact HB.out)))); have n3_ := Aside0.mk (below_step (by repeat (first | (with_reducible first | exact HB.out | apply below_alloc | apply pw_below_drewN | apply below_drew1) | exact HB.out)) hb); clear HO258; clear HO262; clear HB; have HO258 := n0_; have HO262 := n1_; have HO266 := n2_; have HB := n3_; clear n0_ n1_ n2_ n3_; (try clear hb); (try clear hb2); (try clear hk); (try clear hi); (try clear ho0)))
        (try simp only [Act.put, List.setIfInBounds_toArray, List.set_cons_zero, List.set_cons_succ])
        go_cut [46] (fun v46 wc => ∃ (kq : Nat) (x46_16 : Bool), v46 = .bool x46_16 ∧ Aside0 (horariumlaw47_LogJoins.j1 kq l0 t255 t259 t263 t264 x46_16 = some r) ∧ Aside0 (kq ≤ kj3) ∧ Aside0 (Kd.R (Kd.int .u8) 5 wc w.heap.size (fun k_ => some k_ ≠ (v261 : Value).ownBlock ∧ some k_ ≠ (v265 : Value).ownBlock) v257 t255) ∧ Aside0 (Kd.R (Kd.int .u8) 5 wc w.heap.size (fun k_ => some k_ ≠ (v257 : Value).ownBlock ∧ some k_ ≠ (v265 : Value).ownBlock) v261 t259) ∧ Aside0 (Kd.R (Kd.int .u8) 5 wc w.heap.size (fun k_ => some k_ ≠ (v257 : Value).ownBlock ∧ some k_ ≠ (v261 : Value).ownBlock) v265 t263) ∧ Aside0 (Below w.heap.size w wc))
        case first =>
          have H := HC17.out
          clear HC17
          by_cases c21 : t256 = 0
          · rw [if_pos c21] at H
            have c21b0 : (t256 == 0) = true := beq_iff_eq.mpr c21
            have c21b1 : (t256 != 0) = false := bne_eq_false_iff_eq.mpr c21
            clear c21
            (first | rw [c21b0] | (simp only [i64_w, i32_w]; rw [c21b0]) | skip)
            have H' := Aside0.mk H
            clear H
            go_wp2
            go_meet
            case rel => exact ⟨_, ((t260 != 0)), (by first | rfl | (simp; done) | (simp [*]; done)), H', ⟨by have := HJ3.out; first | omega | exact Nat.le_refl _⟩, ⟨by (with_reducible repeat (first | apply Kd.R_alloc | apply Kd.R_drewN | apply Kd.R_drew)); exact Kd.R_mono HO258.out (fun _ hk => ⟨hk.1.2, hk.2⟩)⟩, ⟨by (with_reducible repeat (first | apply Kd.R_alloc | apply Kd.R_drewN | apply Kd.R_drew)); exact Kd.R_mono HO262.out (fun _ hk => ⟨hk.1.2, hk.2⟩)⟩, ⟨by (with_reducible repeat (first | apply Kd.R_alloc | apply Kd.R_drewN | apply Kd.R_drew)); exact Kd.R_mono HO266.out (fun _ hk => ⟨hk.1.2, hk.2⟩)⟩, ⟨by repeat (first | (with_reducible first | exact HB.out | apply below_alloc | apply pw_below_drewN | apply below_drew1) | exact HB.out)⟩⟩
          · rw [if_neg c21] at H
            have c21b0 : (t256 == 0) = false := beq_eq_false_iff_ne.mpr c21
            have c21b1 : (t256 != 0) = true := bne_iff_ne.mpr c21
            (first | rw [c21b0] | (simp only [i64_w, i32_w]; rw [c21b0]) | skip)
            have H' := Aside0.mk H
            clear H
            go_wp2
            go_meet
            case rel => exact ⟨_, (true), (by first | rfl | (simp; done) | (simp [*]; done)), H', ⟨by have := HJ3.out; first | omega | exact Nat.le_refl _⟩, ⟨by (with_reducible repeat (first | apply Kd.R_alloc | apply Kd.R_drewN | apply Kd.R_drew)); exact Kd.R_mono HO258.out (fun _ hk => ⟨hk.1.2, hk.2⟩)⟩, ⟨by (with_reducible repeat (first | apply Kd.R_alloc | apply Kd.R_drewN | apply Kd.R_drew)); exact Kd.R_mono HO262.out (fun _ hk => ⟨hk.1.2, hk.2⟩)⟩, ⟨by (with_reducible repeat (first | apply Kd.R_alloc | apply Kd.R_drewN | apply Kd.R_drew)); exact Kd.R_mono HO266.out (fun _ hk => ⟨hk.1.2, hk.2⟩)⟩, ⟨by repeat (first | (with_reducible first | exact HB.out | apply below_alloc | apply pw_below_drewN | apply below_drew1) | exact HB.out)⟩⟩
        case rest =>
          clear HC17
          try clear c1
          try clear c2
          try clear p2
          try clear c6
          try clear c10
          try clear c11
          try clear c21
          try clear c21b0
          try clear c21b1
          try clear p2
          obtain ⟨kq, x46_16, rfl, HA, HJ16, HO_5, HO_7, HO_9, HB⟩ := hcut
          cases kq with
          | zero => exact absurd HA.out (by simp [horariumlaw47_LogJoins.j1])
          | succ kj16 =>
            have H := HA.out
            clear HA
            simp only [horariumlaw47_LogJoins.j1] at H
            by_cases c22 : x46_16 = true
            · subst c22
              have H1 : (if t264 = 2 then (if (t263.length : Int) = 0 then ((horariumlaw47_heads.f kj16).bind fun t267 => (some t267)) else (some false)) else (some false)) = some r := by rw [if_pos rfl] at H; exact H
              clear H
              have H := H1
              clear H1
              by_cases c23 : t264 = 2
              · rw [if_pos c23] at H
                have c23b0 : (t264 == 2) = true := beq_iff_eq.mpr c23
                have c23b1 : (t264 != 2) = false := bne_eq_false_iff_eq.mpr c23
                clear c23
                by_cases c24 : (t263.length : Int) = 0
                · rw [if_pos c24] at H
                  have c24b0 : ((t263.length : Int) == 0) = true := beq_iff_eq.mpr c24
                  have c24b1 : ((t263.length : Int) != 0) = false := bne_eq_false_iff_eq.mpr c24
                  clear c24
                  replace H := Option.bind_eq_some_iff.mp H
                  obtain ⟨t267, A250, H⟩ := H
                  replace H : (some t267) = some r := H
                  have A25 := Aside0.mk A250
                  clear A250
                  obtain rfl := Option.some.inj H
                  obtain ⟨Ao26, co26, eo26⟩ := Kd.R_slice HO_9.out
                  subst eo26
                  go_wp2_with (first | (go_at_call 101; (with_reducible refine (horariumlaw47_heads.calls kj16  t267 _ A25.out).mono ?_); rintro e w27 ⟨rfl, hb⟩; have n0_ := Aside0.mk (Kd.R_below (by (with_reducible repeat (first | apply Kd.R_alloc | apply Kd.R_drewN | apply Kd.R_drew)); exact HO_5.out) hb); have n1_ := Aside0.mk (Kd.R_below (by (with_reducible repeat (first | apply Kd.R_alloc | apply Kd.R_drewN | apply Kd.R_drew)); exact HO_7.out) hb); have n2_ := Aside0.mk (Kd.R_below (by (with_reducible repeat (first | apply Kd.R_alloc | apply Kd.R_drewN | apply Kd.R_drew)); exact HO_9.out) hb); have n3_ := Aside0.mk (below_step (by repeat (first | (with_reducible first | exact HB.out | apply below_alloc | apply pw_below_drewN | apply below_drew1) | exact HB.out)) hb); clear HO_5; clear HO_7; clear HO_9; clear HB; have HO_5 := n0_; have HO_7 := n1_; have HO_9 := n2_; have HB := n3_; clear n0_ n1_ n2_ n3_; (try clear hb); (try clear hb2); (try clear hk); (try clear hi)))
                  go_ret
                  exact ⟨by first | rfl | (simp [errW_none, errW_some] <;> rfl) | (simp [*, errW_none, errW_some] <;> rfl), by repeat (first | (with_reducible first | exact HB.out | apply below_alloc | apply pw_below_drewN | apply below_drew1) | exact HB.out)⟩
                · rw [if_neg c24] at H
                  exact absurd ((Option.some.inj H).trans hr_) Bool.false_ne_true
              · rw [if_neg c23] at H
                exact absurd ((Option.some.inj H).trans hr_) Bool.false_ne_true
            · replace c22 := Bool.eq_false_iff.mpr c22
              subst c22
              have H1 : (horariumlaw47_LogJoins.l0 kj16 l0 t255 t259 t263 t264 0 0) = some r := by rw [if_neg (show ¬ (false = true) by decide)] at H; exact H
              clear H
              have H := H1
              clear H1
              have H' := Aside0.mk H
              clear H
              go_wp2
              go_loopg [11, 12] kj16 (fun kq v11 v12 w' => ∃ (x11_3 : Int) (x12_3 : Int), v11 = .int .i64 x11_3 ∧ v12 = .int .i64 x12_3 ∧ Aside0 (horariumlaw47_LogJoins.l0 kq l0 t255 t259 t263 t264 x11_3 x12_3 = some r) ∧ Aside0 (kq ≤ kj16) ∧ Aside0 (Kd.R (Kd.int .u8) 5 w' w.heap.size (fun k_ => some k_ ≠ (v261 : Value).ownBlock ∧ some k_ ≠ (v265 : Value).ownBlock) v257 t255) ∧ Aside0 (Kd.R (Kd.int .u8) 5 w' w.heap.size (fun k_ => some k_ ≠ (v257 : Value).ownBlock ∧ some k_ ≠ (v265 : Value).ownBlock) v261 t259) ∧ Aside0 (Kd.R (Kd.int .u8) 5 w' w.heap.size (fun k_ => some k_ ≠ (v257 : Value).ownBlock ∧ some k_ ≠ (v261 : Value).ownBlock) v265 t263) ∧ Aside0 (Below w.heap.size w w'))
              case atStart => exact ⟨(0), (0), (by first | rfl | (simp; done) | (simp [*]; done)), (by first | rfl | (simp; done) | (simp [*]; done)), H', ⟨Nat.le_refl _⟩, ⟨by (with_reducible repeat (first | apply Kd.R_alloc | apply Kd.R_drewN | apply Kd.R_drew)); exact HO_5.out⟩, ⟨by (with_reducible repeat (first | apply Kd.R_alloc | apply Kd.R_drewN | apply Kd.R_drew)); exact HO_7.out⟩, ⟨by (with_reducible repeat (first | apply Kd.R_alloc | apply Kd.R_drewN | apply Kd.R_drew)); exact HO_9.out⟩, ⟨by repeat (first | (with_reducible first | exact HB.out | apply below_alloc | apply pw_below_drewN | apply below_drew1) | exact HB.out)⟩⟩
              case round =>
                clear H'
                try clear c1
                try clear c2
                try clear p2
                try clear c6
                try clear c10
                try clear c11
                try clear c21
                try clear c21b0
                try clear c21b1
                try clear c22
                try clear c23
                try clear c23b0
                try clear c23b1
                try clear c24
                try clear c24b0
                try clear c24b1
                try clear c24b2
                try clear c26
                try clear p2
                obtain ⟨x11_3, x12_3, rfl, rfl, HA, HK3, HO_5, HO_7, HO_9, HB⟩ := hrel
                cases gk with
                | zero => exact absurd HA.out (by simp [horariumlaw47_LogJoins.l0])
                | succ k3 =>
                  have H := HA.out
                  clear HA
                  simp only [horariumlaw47_LogJoins.l0] at H
                  by_cases c29 : x12_3 < (l0.length : Int)
                  · rw [if_pos c29] at H
                    have c29b0 : decide (x12_3 < (l0.length : Int)) = true := decide_eq_true c29
                    clear c29
                    by_cases c30 : 0 ≤ x12_3
                    · rw [if_pos c30] at H
                      have c30b0 : decide (0 ≤ x12_3) = true := decide_eq_true c30
                      clear c30
                      replace H := Option.bind_eq_some_iff.mp H
                      obtain ⟨t269, A310, H⟩ := H
                      replace H : (horariumlaw47_LogJoins.l0 k3 l0 t255 t259 t263 t264 (wrap64 (x11_3 + t269)) (wrap64 (x12_3 + 1))) = some r := H
                      have A31 := Aside0.mk A310
                      clear A310
                      have H' := Aside0.mk H
                      clear H
                      have p268 : 0 ≤ (x12_3 : Int) := of_decide_eq_true (by first | (with_reducible assumption) | assumption)
                      have q268 : x12_3 < (l0.length : Int) := of_decide_eq_true (by first | (with_reducible assumption) | assumption)
                      obtain ⟨ad268, A268_1, c268_1, e268, hx268_0, hx268_1, hl268_1, hi268_1⟩ := at_T68 HR0.out x12_3 p268 q268
                      cases e268
                      replace hx268_0 := (HB.out.cell (World.block_lt_of_cell? w _ hx268_0)).trans hx268_0
                      replace hx268_1 := (HB.out.cell (World.block_lt_of_cell? w _ hx268_1)).trans hx268_1
                      have HR268_1 := Aside0.mk hi268_1
                      have HC268_1 := Aside0.mk hl268_1
                      clear hi268_1 hl268_1
                      replace p268 := eq_true p268
                      replace q268 := eq_true q268
                      go_wp2_with (first | ((with_reducible refine gate_callee (f := 104) rfl ?_); refine goesL_ (some 68) rfl rfl Try.func104 (by kernel_rfl) rfl #[.agg #[.int .i64 ((rd_T68 l0 x12_3).f0), .slice A268_1 ((rd_T68 l0 x12_3).f1).length c268_1]] rfl (by (try simp only [List.map_toArray, List.map_cons, List.map_nil]); first | done | rfl | (simp only [List.length_drop, List.length_take]; rfl)) ?_; (with_reducible refine (log_Size.calls k3 ((rd_T68 l0 x12_3).f0) _ _ ((rd_T68 l0 x12_3).f1) t269 _ ?side1 ?side2 A31.out).mono ?_); (case side1 => repeat (first | exact (Kd.C_below HR268_1.out HB.out) | (with_reducible refine Kd.C_alloc ?_ _) | (with_reducible refine Kd.C_drewN ?_ _) | (with_reducible refine Kd.C_drew ?_))); (case side2 => exact HC268_1.out); rintro e w32 ⟨rfl, hb⟩; refine ⟨_, rfl, ?_⟩; have n0_ := Aside0.mk (Kd.R_below (by (with_reducible repeat (first | apply Kd.R_alloc | apply Kd.R_drewN | apply Kd.R_drew)); exact HO_5.out) hb); have n1_ := Aside0.mk (Kd.R_below (by (with_reducible repeat (first | apply Kd.R_alloc | apply Kd.R_drewN | apply Kd.R_drew)); exact HO_7.out) hb); have n2_ := Aside0.mk (Kd.R_below (by (with_reducible repeat (first | apply Kd.R_alloc | apply Kd.R_drewN | apply Kd.R_drew)); exact HO_9.out) hb); have n3_ := Aside0.mk (below_step (by repeat (first | (with_reducible first | exact HB.out | apply below_alloc | apply pw_below_drewN | apply below_drew1) | exact HB.out)) hb); clear HO_5; clear HO_7; clear HO_9; clear HB; have HO_5 := n0_; have HO_7 := n1_; have HO_9 := n2_; have HB := n3_; clear n0_ n1_ n2_ n3_; (try clear hb); (try clear hb2); (try clear hk); (try clear hi)))
                      go_roundg k3
                      case measure => have := HJ3.out; have := HJ16.out; have := HK3.out; omega
                      case rel => exact ⟨(wrap64 (x11_3 + t269)), (wrap64 (x12_3 + 1)), (by first | rfl | (simp; done) | (simp [*]; done)), (by first | rfl | (simp; done) | (simp [*]; done)), H', ⟨by have := HJ3.out; have := HJ16.out; have := HK3.out; omega⟩, ⟨by (with_reducible repeat (first | apply Kd.R_alloc | apply Kd.R_drewN | apply Kd.R_drew)); exact HO_5.out⟩, ⟨by (with_reducible repeat (first | apply Kd.R_alloc | apply Kd.R_drewN | apply Kd.R_drew)); exact HO_7.out⟩, ⟨by (with_reducible repeat (first | apply Kd.R_alloc | apply Kd.R_drewN | apply Kd.R_drew)); exact HO_9.out⟩, ⟨by repeat (first | (with_reducible first | exact HB.out | apply below_alloc | apply pw_below_drewN | apply below_drew1) | exact HB.out)⟩⟩
                    · rw [if_neg c30] at H
                      exact absurd H (by simp)
                  · rw [if_neg c29] at H
                    have c29b0 : decide (x12_3 < (l0.length : Int)) = false := decide_eq_false c29
                    clear c29
                    by_cases c33 : t264 = 0
                    · rw [if_pos c33] at H
                      have c33b0 : (t264 == 0) = true := beq_iff_eq.mpr c33
                      have c33b1 : (t264 != 0) = false := bne_eq_false_iff_eq.mpr c33
                      clear c33
                      by_cases c34 : (strOfNums t255).size + (strOfNums t259).size ≤ 9223372036854775807
                      · rw [if_pos c34] at H
                        have c34b0 := eq_true c34
                        have c34b1 : decide ((strOfNums t255).size + (strOfNums t259).size ≤ 9223372036854775807) = true := decide_eq_true c34
                        try have c34b2 : (9223372036854775807 < (strOfNums t255).size + (strOfNums t259).size) = False := eq_false (Nat.not_lt.2 c34)
                        by_cases c35 : (strOfNums t263).toList = ((strOfNums t255) ++ (strOfNums t259)).toList
                        · rw [if_pos c35] at H
                          have c35b0 : ((strOfNums t263).toList == ((strOfNums t255) ++ (strOfNums t259)).toList) = true := beq_iff_eq.mpr c35
                          have c35b1 : ((strOfNums t263).toList != ((strOfNums t255) ++ (strOfNums t259)).toList) = false := bne_eq_false_iff_eq.mpr c35
                          clear c35
                          by_cases c36 : x11_3 = (t255.length : Int)
                          · rw [if_pos c36] at H
                            have c36b0 : (x11_3 == (t255.length : Int)) = true := beq_iff_eq.mpr c36
                            have c36b1 : (x11_3 != (t255.length : Int)) = false := bne_eq_false_iff_eq.mpr c36
                            clear c36
                            replace H := Option.bind_eq_some_iff.mp H
                            obtain ⟨t270, A370, H⟩ := H
                            replace H : (some t270) = some r := H
                            have A37 := Aside0.mk A370
                            clear A370
                            obtain rfl := Option.some.inj H
                            have hcv38 := own_string (P := Try.prog) Try.underlying44 Try.underlying5 Try.underlying9 (Kd.own_of_R HO_9.out)
                            have hcv39 := own_string (P := Try.prog) Try.underlying44 Try.underlying5 Try.underlying9 (Kd.own_of_R HO_5.out)
                            have hcv40 := own_string (P := Try.prog) Try.underlying44 Try.underlying5 Try.underlying9 (Kd.own_of_R HO_7.out)
                            obtain ⟨Ao41, co41, eo41⟩ := Kd.R_slice HO_5.out
                            subst eo41
                            go_wp2_with (first | (go_at_call 101; (with_reducible refine (horariumlaw47_heads.calls k3  t270 _ A37.out).mono ?_); rintro e w42 ⟨rfl, hb⟩; have n0_ := Aside0.mk (Kd.R_below (by (with_reducible repeat (first | apply Kd.R_alloc | apply Kd.R_drewN | apply Kd.R_drew)); exact HO_5.out) hb); have n1_ := Aside0.mk (Kd.R_below (by (with_reducible repeat (first | apply Kd.R_alloc | apply Kd.R_drewN | apply Kd.R_drew)); exact HO_7.out) hb); have n2_ := Aside0.mk (Kd.R_below (by (with_reducible repeat (first | apply Kd.R_alloc | apply Kd.R_drewN | apply Kd.R_drew)); exact HO_9.out) hb); have n3_ := Aside0.mk (below_step (by repeat (first | (with_reducible first | exact HB.out | apply below_alloc | apply pw_below_drewN | apply below_drew1) | exact HB.out)) hb); clear HO_5; clear HO_7; clear HO_9; clear HB; have HO_5 := n0_; have HO_7 := n1_; have HO_9 := n2_; have HB := n3_; clear n0_ n1_ n2_ n3_; (try clear hb); (try clear hb2); (try clear hk); (try clear hi)))
                            go_ret
                            exact ⟨by first | rfl | (simp [errW_none, errW_some] <;> rfl) | (simp [*, errW_none, errW_some] <;> rfl), by repeat (first | (with_reducible first | exact HB.out | apply below_alloc | apply pw_below_drewN | apply below_drew1) | exact HB.out)⟩
                          · rw [if_neg c36] at H
                            exact absurd ((Option.some.inj H).trans hr_) Bool.false_ne_true
                        · rw [if_neg c35] at H
                          exact absurd ((Option.some.inj H).trans hr_) Bool.false_ne_true
                      · rw [if_neg c34] at H
                        exact absurd H (by simp)
                    · rw [if_neg c33] at H
                      exact absurd ((Option.some.inj H).trans hr_) Bool.false_ne_true
end Go.Proofs.Ytccjdefhieilpaa.PL
