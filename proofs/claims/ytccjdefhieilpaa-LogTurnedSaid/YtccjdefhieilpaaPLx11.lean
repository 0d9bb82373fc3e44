-- Written by a program of this session (wip/tools/patch_print.py over the print of the kit)
import Derived.Test.YtccjdefhieilpaaPLx0
import Derived.Test.YtccjdefhieilpaaLogBase
import Derived.Test.YtccjdefhieilpaaPLx2
import Derived.Test.YtccjdefhieilpaaPLx3
import Derived.Test.YtccjdefhieilpaaPLx4
import Derived.Test.YtccjdefhieilpaaPCx1
namespace Go.Proofs.Ytccjdefhieilpaa.PL
open Go.RowKit Go.Proofs.YtccjdefhieilpaaW.PrintWords Go.Proofs.YtccjdefhieilpaaW.PrintLast Go.Proofs.YtccjdefhieilpaaW.PrintMore Go.Proofs.Ytccjdefhieilpaa.PB
attribute [local go_sem] max2_int min2_int max_two min_two max_three min_three max_four min_four   -- for this text's walks alone
set_option linter.unusedVariables false
set_option linter.unusedSimpArgs false

/-! ### horariumlaw47_LogTurned: function 25 -/
mutual
def horariumlaw47_LogTurned.j0 : Nat → Int → Int → Bool → Int → List Int → Option (Bool)
  | 0, _, _, _, _, _ => none
  | k + 1, x1, x2, x22, x431000, x431001 => if x22 = true then ((horariumlaw47_heads.f k).bind fun t441 => (some t441)) else ((log_Frame.f k x431000 x431001).bind fun bt442 => (if bt442.2 = 0 then (if x1 < 0 then (horariumlaw47_LogTurned.j1 k x1 x2 bt442.1 true x431000 x431001) else (horariumlaw47_LogTurned.j1 k x1 x2 bt442.1 (decide (x1 ≥ (bt442.1.length : Int))) x431000 x431001)) else (horariumlaw47_LogTurned.j1 k x1 x2 bt442.1 true x431000 x431001)))
def horariumlaw47_LogTurned.j1 : Nat → Int → Int → List Int → Bool → Int → List Int → Option (Bool)
  | 0, _, _, _, _, _, _ => none
  | k + 1, x1, x2, x7, x40, x431000, x431001 => if x40 = true then ((horariumlaw47_heads.f k).bind fun t446 => (some t446)) else ((some (([0] : List Int) : List Int)).bind fun y447 => (if y447.length + x7.length < 140737488355328 then ((log_Next.f k (y447 ++ x7) 1).bind fun bt453 => (if bt453.2.2.2 = 0 then (if bt453.2.2.1 = (wrap64 ((x7.length : Int) + 1)) then (if bt453.1 = x431000 then ((horariumref03_Same.f bt453.2.1 x431001).bind fun t460 => (horariumlaw47_LogTurned.j2 k x1 x2 x7 (!t460) x431000 x431001)) else (horariumlaw47_LogTurned.j2 k x1 x2 x7 true x431000 x431001)) else (horariumlaw47_LogTurned.j2 k x1 x2 x7 true x431000 x431001)) else (horariumlaw47_LogTurned.j2 k x1 x2 x7 true x431000 x431001))) else (none)))
def horariumlaw47_LogTurned.j2 : Nat → Int → Int → List Int → Bool → Int → List Int → Option (Bool)
  | 0, _, _, _, _, _, _ => none
  | k + 1, x1, x2, x7, x73, x431000, x431001 => if x73 = true then (some false) else (if x1 = 1 then (horariumlaw47_LogTurned.j3 k x1 x2 x7 false) else (horariumlaw47_LogTurned.j3 k x1 x2 x7 (decide (x1 < (wrap64 ((wrap64 ((x7.length : Int) - 4)) - (x431001.length : Int)))))))
def horariumlaw47_LogTurned.j3 : Nat → Int → Int → List Int → Bool → Option (Bool)
  | 0, _, _, _, _ => none
  | k + 1, x1, x2, x7, x86 => if x86 = true then ((horariumlaw47_heads.f k).bind fun t461 => (some t461)) else (if 0 ≤ x1 then (if x1 < (x7.length : Int) then ((some (x7.set (x1 : Int).toNat (Go.bits .xor .u8 (rd x7 x1) x2) : List Int)).bind fun y463 => ((log_Next.f k y463 0).bind fun bt464 => (if bt464.2.2.2 = 27 then (if bt464.1 = 0 then (if (bt464.2.1.length : Int) = 0 then (if bt464.2.2.1 = 0 then ((horariumlaw47_heads.f k).bind fun t471 => (some t471)) else (some false)) else (some false)) else (some false)) else (if bt464.2.2.2 = 3 then (if x1 = 1 then (if 1 < (x7.length : Int) then (if (rd y463 1) = 0 then (if bt464.1 = 0 then (if (bt464.2.1.length : Int) = 0 then (if bt464.2.2.1 = 0 then ((horariumlaw47_heads.f k).bind fun t473 => (some t473)) else (some false)) else (some false)) else (some false)) else (some false)) else (none)) else (some false)) else (some false))))) else (none)) else (none))
end
def horariumlaw47_LogTurned.f (k : Nat) (a0_0 : Int) (l0_1 : List Int) (a1 : Int) (a2 : Int) : Option (Bool) := (some (([] : List Int) : List Int)).bind fun y431 => (if y431.length + l0_1.length < 140737488355328 then ((horariumlaw47_few.f k (([(⟨a0_0, (y431 ++ l0_1)⟩ : S68)] : List (S68)))).bind fun t440 => (if t440 = true then (horariumlaw47_LogTurned.j0 k a1 a2 (a2 == 0) a0_0 l0_1) else (horariumlaw47_LogTurned.j0 k a1 a2 true a0_0 l0_1))) else (none))
theorem horariumlaw47_LogTurned.mono_l : ∀ k, (∀ y0 y1 y2 y3 y4, LeO (horariumlaw47_LogTurned.j0 k y0 y1 y2 y3 y4) (horariumlaw47_LogTurned.j0 (k + 1) y0 y1 y2 y3 y4)) ∧ (∀ y0 y1 y2 y3 y4 y5, LeO (horariumlaw47_LogTurned.j1 k y0 y1 y2 y3 y4 y5) (horariumlaw47_LogTurned.j1 (k + 1) y0 y1 y2 y3 y4 y5)) ∧ (∀ y0 y1 y2 y3 y4 y5, LeO (horariumlaw47_LogTurned.j2 k y0 y1 y2 y3 y4 y5) (horariumlaw47_LogTurned.j2 (k + 1) y0 y1 y2 y3 y4 y5)) ∧ (∀ y0 y1 y2 y3, LeO (horariumlaw47_LogTurned.j3 k y0 y1 y2 y3) (horariumlaw47_LogTurned.j3 (k + 1) y0 y1 y2 y3))
  | 0 => ⟨fun _ _ _ _ _ r h => by simp [horariumlaw47_LogTurned.j0] at h, fun _ _ _ _ _ _ r h => by simp [horariumlaw47_LogTurned.j1] at h, fun _ _ _ _ _ _ r h => by simp [horariumlaw47_LogTurned.j2] at h, fun _ _ _ _ r h => by simp [horariumlaw47_LogTurned.j3] at h⟩
  | k + 1 => by
    obtain ⟨ih0, ih1, ih2, ih3⟩ := horariumlaw47_LogTurned.mono_l k
    refine ⟨?_, ?_, ?_, ?_⟩
    · intro y0 y1 y2 y3 y4
      unfold horariumlaw47_LogTurned.j0
      repeat' first
      | (with_reducible exact ih0 _ _ _ _ _)
      | (with_reducible exact ih1 _ _ _ _ _ _)
      | (with_reducible exact ih2 _ _ _ _ _ _)
      | (with_reducible exact ih3 _ _ _ _)
      | (with_reducible exact horariumlaw47_few.mono _ _)
      | (with_reducible exact horariumlaw47_heads.mono _)
      | (with_reducible exact log_Frame.mono _ _ _)
      | (with_reducible exact log_Next.mono _ _ _)
      | (with_reducible exact LeO.refl _)
      | (with_reducible exact LeO.none _)
      | (with_reducible refine LeO.ite ?_ ?_)
      | (with_reducible refine LeO.bind ?_ (fun _ => ?_))
      | exact ih0 _ _ _ _ _
      | exact ih1 _ _ _ _ _ _
      | exact ih2 _ _ _ _ _ _
      | exact ih3 _ _ _ _
      | exact horariumlaw47_few.mono _ _
      | exact horariumlaw47_heads.mono _
      | exact log_Frame.mono _ _ _
      | exact log_Next.mono _ _ _
      | exact LeO.none _
      | refine LeO.ite ?_ ?_
      | refine LeO.bind ?_ (fun _ => ?_)
    · intro y0 y1 y2 y3 y4 y5
      unfold horariumlaw47_LogTurned.j1
      repeat' first
      | (with_reducible exact ih0 _ _ _ _ _)
      | (with_reducible exact ih1 _ _ _ _ _ _)
      | (with_reducible exact ih2 _ _ _ _ _ _)
      | (with_reducible exact ih3 _ _ _ _)
      | (with_reducible exact horariumlaw47_few.mono _ _)
      | (with_reducible exact horariumlaw47_heads.mono _)
      | (with_reducible exact log_Frame.mono _ _ _)
      | (with_reducible exact log_Next.mono _ _ _)
      | (with_reducible exact LeO.refl _)
      | (with_reducible exact LeO.none _)
      | (with_reducible refine LeO.ite ?_ ?_)
      | (with_reducible refine LeO.bind ?_ (fun _ => ?_))
      | exact ih0 _ _ _ _ _
      | exact ih1 _ _ _ _ _ _
      | exact ih2 _ _ _ _ _ _
      | exact ih3 _ _ _ _
      | exact horariumlaw47_few.mono _ _
      | exact horariumlaw47_heads.mono _
      | exact log_Frame.mono _ _ _
      | exact log_Next.mono _ _ _
      | exact LeO.none _
      | refine LeO.ite ?_ ?_
      | refine LeO.bind ?_ (fun _ => ?_)
    · intro y0 y1 y2 y3 y4 y5
      unfold horariumlaw47_LogTurned.j2
      repeat' first
      | (with_reducible exact ih0 _ _ _ _ _)
      | (with_reducible exact ih1 _ _ _ _ _ _)
      | (with_reducible exact ih2 _ _ _ _ _ _)
      | (with_reducible exact ih3 _ _ _ _)
      | (with_reducible exact horariumlaw47_few.mono _ _)
      | (with_reducible exact horariumlaw47_heads.mono _)
      | (with_reducible exact log_Frame.mono _ _ _)
      | (with_reducible exact log_Next.mono _ _ _)
      | (with_reducible exact LeO.refl _)
      | (with_reducible exact LeO.none _)
      | (with_reducible refine LeO.ite ?_ ?_)
      | (with_reducible refine LeO.bind ?_ (fun _ => ?_))
      | exact ih0 _ _ _ _ _
      | exact ih1 _ _ _ _ _ _
      | exact ih2 _ _ _ _ _ _
      | exact ih3 _ _ _ _
      | exact horariumlaw47_few.mono _ _
      | exact horariumlaw47_heads.mono _
      | exact log_Frame.mono _ _ _
      | exact log_Next.mono _ _ _
      | exact LeO.none _
      | refine LeO.ite ?_ ?_
      | refine LeO.bind ?_ (fun _ => ?_)
    · intro y0 y1 y2 y3
      unfold horariumlaw47_LogTurned.j3
      repeat' first
      | (with_reducible exact ih0 _ _ _ _ _)
      | (with_reducible exact ih1 _ _ _ _ _ _)
      | (with_reducible exact ih2 _ _ _ _ _ _)
      | (with_reducible exact ih3 _ _ _ _)
      | (with_reducible exact horariumlaw47_few.mono _ _)
      | (with_reducible exact horariumlaw47_heads.mono _)
      | (with_reducible exact log_Frame.mono _ _ _)
      | (with_reducible exact log_Next.mono _ _ _)
      | (with_reducible exact LeO.refl _)
      | (with_reducible exact LeO.none _)
      | (with_reducible refine LeO.ite ?_ ?_)
      | (with_reducible refine LeO.bind ?_ (fun _ => ?_))
      | exact ih0 _ _ _ _ _
      | exact ih1 _ _ _ _ _ _
      | exact ih2 _ _ _ _ _ _
      | exact ih3 _ _ _ _
      | exact horariumlaw47_few.mono _ _
      | exact horariumlaw47_heads.mono _
      | exact log_Frame.mono _ _ _
      | exact log_Next.mono _ _ _
      | exact LeO.none _
      | refine LeO.ite ?_ ?_
      | refine LeO.bind ?_ (fun _ => ?_)
theorem horariumlaw47_LogTurned.mono : ∀ a0 a1 a2 a3 k, LeO (horariumlaw47_LogTurned.f k a0 a1 a2 a3) (horariumlaw47_LogTurned.f (k + 1) a0 a1 a2 a3) := by
  intro a0 a1 a2 a3 k
  obtain ⟨ih0, ih1, ih2, ih3⟩ := horariumlaw47_LogTurned.mono_l k
  unfold horariumlaw47_LogTurned.f
  repeat' first
      | (with_reducible exact ih0 _ _ _ _ _)
      | (with_reducible exact ih1 _ _ _ _ _ _)
      | (with_reducible exact ih2 _ _ _ _ _ _)
      | (with_reducible exact ih3 _ _ _ _)
      | (with_reducible exact horariumlaw47_few.mono _ _)
      | (with_reducible exact horariumlaw47_heads.mono _)
      | (with_reducible exact log_Frame.mono _ _ _)
      | (with_reducible exact log_Next.mono _ _ _)
      | (with_reducible exact LeO.refl _)
      | (with_reducible exact LeO.none _)
      | (with_reducible refine LeO.ite ?_ ?_)
      | (with_reducible refine LeO.bind ?_ (fun _ => ?_))
      | exact ih0 _ _ _ _ _
      | exact ih1 _ _ _ _ _ _
      | exact ih2 _ _ _ _ _ _
      | exact ih3 _ _ _ _
      | exact horariumlaw47_few.mono _ _
      | exact horariumlaw47_heads.mono _
      | exact log_Frame.mono _ _ _
      | exact log_Next.mono _ _ _
      | exact LeO.none _
      | refine LeO.ite ?_ ?_
      | refine LeO.bind ?_ (fun _ => ?_)
set_option maxHeartbeats 8000000 in
set_option maxRecDepth 100000 in
theorem horariumlaw47_LogTurned.calls (k : Nat) (a0_0 : Int) (A0_1 : Option Addr) (c0_1 : Nat) (l0_1 : List Int) (a1 : Int) (a2 : Int) (r : Bool) (hr_ : r = true) (w : World) (hr0_1 : Kd.C (Kd.int .u8) w A0_1 l0_1.length l0_1) (hc0_1 : l0_1.length ≤ c0_1) (h : horariumlaw47_LogTurned.f k a0_0 l0_1 a1 a2 = some r) :
    Calls Try.prog 25 #[.agg #[.int .i64 a0_0, .slice A0_1 l0_1.length c0_1], .int .i64 a1, .int .u8 a2] w fun e w' => e = .returned (.bool r) ∧ Below w.heap.size w w' := by
  have hu68 := Try.underlying68
  have HR0_1 := Aside0.mk hr0_1
  have HC0_1 := Aside0.mk hc0_1
  clear hr0_1 hc0_1
  have HB := Aside0.mk (Below.refl w.heap.size w)
  have H : ((some (([] : List Int) : List Int)).bind fun y431 => (if y431.length + l0_1.length < 140737488355328 then ((horariumlaw47_few.f k (([(⟨a0_0, (y431 ++ l0_1)⟩ : S68)] : List (S68)))).bind fun t440 => (if t440 = true then (horariumlaw47_LogTurned.j0 k a1 a2 (a2 == 0) a0_0 l0_1) else (horariumlaw47_LogTurned.j0 k a1 a2 true a0_0 l0_1))) else (none))) = some r := h
  clear h
  obtain ⟨y431, hy431⟩ : ∃ y_ : List Int, y_ = (([] : List Int)) := ⟨_, rfl⟩
  replace H : (if y431.length + l0_1.length < 140737488355328 then ((horariumlaw47_few.f k (([(⟨a0_0, (y431 ++ l0_1)⟩ : S68)] : List (S68)))).bind fun t440 => (if t440 = true then (horariumlaw47_LogTurned.j0 k a1 a2 (a2 == 0) a0_0 l0_1) else (horariumlaw47_LogTurned.j0 k a1 a2 true a0_0 l0_1))) else (none)) = some r := by first | (rw [hy431]; with_reducible exact H) | (have H2_ := (Option.bind_some _ _).symm.trans H; rw [hy431]; with_reducible exact H2_) | (have H2_ := (Option.bind_some _ _).symm.trans H; with_reducible exact H2_) | with_reducible exact H | (rw [hy431]; exact H) | exact H
  have Ny431 := Aside0.mk hy431
  clear hy431
  by_cases c4 : y431.length + l0_1.length < 140737488355328
  · rw [if_pos c4] at H
    have LMc4 := Aside0.mk c4
    clear c4
    obtain ⟨y434, hy434⟩ : ∃ y_ : List Int, y_ = (y431 ++ l0_1) := ⟨_, rfl⟩
    replace H : ((horariumlaw47_few.f k (([(⟨a0_0, y434⟩ : S68)] : List (S68)))).bind fun t440 => (if t440 = true then (horariumlaw47_LogTurned.j0 k a1 a2 (a2 == 0) a0_0 l0_1) else (horariumlaw47_LogTurned.j0 k a1 a2 true a0_0 l0_1))) = some r := by first | (rw [hy434]; with_reducible exact H) | (have H2_ := (Option.bind_some _ _).symm.trans H; rw [hy434]; with_reducible exact H2_) | (have H2_ := (Option.bind_some _ _).symm.trans H; with_reducible exact H2_) | with_reducible exact H | (rw [hy434]; exact H) | exact H
    have hy4_ : l0_1 = y434 := by rw [hy434, Ny431.out]; rfl
    clear hy434
    subst hy4_
    have HC5 := Aside0.mk H
    clear H
    go_enter Try.func25, Try.ntmps25
    go_upto_region 1 with (first | ((with_reducible refine gate_dst (N := 3) rfl ?_); (try (refine gate_guard (by rfl) ?_; dsimp only)); refine box_event ?hg (N := 3) ?hd (cs := #[.int .i64 a0_0, .slice A0_1 l0_1.length c0_1]) (t := 68) ?hr ?_; (case hd => rfl); (case hg => rfl); (case hr => first | (go_simp; done) | (go_simp; rfl)); intro gb430 hg w6 hbox hb; have n0_ := Aside0.mk (below_step (by repeat (first | (with_reducible first | exact HB.out | apply below_alloc | apply pw_below_drewN | apply below_drew1) | exact HB.out)) hb); have n1_ := Aside0.mk (hbox); have n2_ := Aside0.mk ((by rw [hg]; exact (below_size (by repeat (first | (with_reducible first | exact HB.out | apply below_alloc | apply pw_below_drewN | apply below_drew1) | exact HB.out))) : w.heap.size ≤ gb430)); have n3_ := Aside0.mk ((by rw [hg]; exact (below_size (by repeat (first | (with_reducible first | exact HB.out | apply below_alloc | apply pw_below_drewN | apply below_drew1) | exact HB.out))) : w.heap.size ≤ gb430)); clear HB; have HB := n0_; have BK430 := n1_; have GW430 := n2_; have GE430 := n3_; clear n0_ n1_ n2_ n3_; clear hb hbox hg; have hcz7_0 : w6.cell? ⟨gb430, 0, none⟩ = some (.int .i64 a0_0) := (blk_cell BK430.out 0).trans rfl; have hcz7_1 : w6.cell? ⟨gb430, 1, none⟩ = some (.slice A0_1 l0_1.length c0_1) := (blk_cell BK430.out 1).trans rfl; have hfz7_0 := blk_frozen BK430.out 0; have hfz7_1 := blk_frozen BK430.out 1))
    (try simp only [Act.put, List.setIfInBounds_toArray, List.set_cons_zero, List.set_cons_succ])
    go_cut [22] (fun v22 wc => ∃ (kq : Nat) (x22_4 : Bool), v22 = .bool x22_4 ∧ Aside0 (horariumlaw47_LogTurned.j0 kq a1 a2 x22_4 a0_0 l0_1 = some r) ∧ Aside0 (kq ≤ k) ∧ Aside0 (wc.heap[gb430]? = some (.cells #[.int .i64 a0_0, (.slice A0_1 l0_1.length c0_1)] 68 (0, 0))) ∧ Aside0 (Below w.heap.size w wc))
    case first =>
      have H := HC5.out
      clear HC5
      obtain ⟨y437, hy437⟩ : ∃ y_ : List (S68), y_ = (([(⟨a0_0, l0_1⟩ : S68)] : List (S68))) := ⟨_, rfl⟩
      replace H : ((horariumlaw47_few.f k y437).bind fun t440 => (if t440 = true then (horariumlaw47_LogTurned.j0 k a1 a2 (a2 == 0) a0_0 l0_1) else (horariumlaw47_LogTurned.j0 k a1 a2 true a0_0 l0_1))) = some r := by first | (rw [hy437]; with_reducible exact H) | (have H2_ := (Option.bind_some _ _).symm.trans H; rw [hy437]; with_reducible exact H2_) | (have H2_ := (Option.bind_some _ _).symm.trans H; with_reducible exact H2_) | with_reducible exact H | (rw [hy437]; exact H) | exact H
      have Ny437 := Aside0.mk hy437
      clear hy437
      replace H := Option.bind_eq_some_iff.mp H
      obtain ⟨t440, A110, H⟩ := H
      replace H : (if t440 = true then (horariumlaw47_LogTurned.j0 k a1 a2 (a2 == 0) a0_0 l0_1) else (horariumlaw47_LogTurned.j0 k a1 a2 true a0_0 l0_1)) = some r := H
      have A11 := Aside0.mk A110
      clear A110
      by_cases c12 : t440 = true
      · subst c12
        have H1 : (horariumlaw47_LogTurned.j0 k a1 a2 (a2 == 0) a0_0 l0_1) = some r := by rw [if_pos rfl] at H; exact H
        clear H
        have H := H1
        clear H1
        have H' := Aside0.mk H
        clear H
        go_wp2_with (first | ((with_reducible refine gate_dst (N := 16) rfl ?_); (try (refine gate_guard (by rfl) ?_; dsimp only)); refine Kd.R_lit (lent68 w) _ 68 ?hg (N := 16) ?hd (xs := ([(⟨a0_0, l0_1⟩ : S68)] : List (S68))) (inner := [.int .i64 a0_0, .slice A0_1 l0_1.length c0_1]) (ok := fun _ => True) (okp := fun _ => True) ?hr ?hp (fun _ hk => hk) trivial (Below.refl _ _) (Nat.le_refl _) (by simp) ?_; (case hd => rfl); (case hg => rfl); (case hr => first | (go_simp; done) | (go_simp; rfl)); (case hp => exact (Reps.c2 (lent68_mk (⟨a0_0, l0_1⟩ : S68) HC0_1.out HR0_1.out) (Reps.none _ _))); intro v438 w14 ho15 hb hg_ hnew_; clear hg_ hnew_; (first | rw [← Ny437.out] at ho15 | (simp only [Int.reduceToNat] at ho15; rw [← Ny437.out] at ho15)); have n1_ := Aside0.mk (blk_below (g := gb430) (o := .cells #[.int .i64 a0_0, .slice A0_1 l0_1.length c0_1] 68 (0, 0)) (by (with_reducible repeat (first | refine blk_drewN ?_ _ | refine blk_drew ?_ | refine blk_alloc ?_ _)); exact BK430.out) hb); have n2_ := Aside0.mk (below_step (by repeat (first | (with_reducible first | exact HB.out | apply below_alloc | apply pw_below_drewN | apply below_drew1 | refine below_set ?_ GE430.out) | exact HB.out)) hb); clear BK430; clear HB; have BK430 := n1_; have HB := n2_; clear n1_ n2_; obtain ⟨Ao16, co16, eo16, hl_, hC_⟩ := lent68_reads ho15 HB.out; subst eo16; have HO439 := Aside0.mk hC_; have HL439 := Aside0.mk hl_; clear hC_ hl_; clear hb ho15) | ((with_reducible refine gate_callee (f := 100) rfl ?_); refine goesL_ (some 17) rfl rfl Try.func100 (by kernel_rfl) rfl #[.slice Ao16 y437.length co16] rfl (by (try simp only [List.map_toArray, List.map_cons, List.map_nil]); first | done | rfl | (simp only [List.length_drop, List.length_take]; rfl)) ?_; (with_reducible refine (horariumlaw47_few.calls k _ _ y437 true _ ?side1 ?side2 A11.out).mono ?_); (case side1 => repeat (first | exact HO439.out | (with_reducible refine Kd.C_alloc ?_ _) | (with_reducible refine Kd.C_drewN ?_ _) | (with_reducible refine Kd.C_drew ?_))); (case side2 => exact HL439.out); rintro e w17 ⟨rfl, hb⟩; refine ⟨_, rfl, ?_⟩; have n0_ := Aside0.mk trivial; have n1_ := Aside0.mk (blk_below (g := gb430) (o := .cells #[.int .i64 a0_0, .slice A0_1 l0_1.length c0_1] 68 (0, 0)) (by (with_reducible repeat (first | refine blk_drewN ?_ _ | refine blk_drew ?_ | refine blk_alloc ?_ _)); exact BK430.out) hb); have n2_ := Aside0.mk (below_step (by repeat (first | (with_reducible first | exact HB.out | apply below_alloc | apply pw_below_drewN | apply below_drew1 | refine below_set ?_ GE430.out) | exact HB.out)) hb); clear HO439; clear BK430; clear HB; have HO439 := n0_; have BK430 := n1_; have HB := n2_; clear n0_ n1_ n2_; (try clear hb); (try clear hb2); (try clear hk); (try clear hi)))
        go_meet
        case rel => exact ⟨_, ((a2 == 0)), (by first | rfl | (simp; done) | (simp [*]; done)), H', ⟨by first | omega | exact Nat.le_refl _⟩, ⟨by (with_reducible repeat (first | refine blk_drewN ?_ _ | refine blk_drew ?_ | refine blk_alloc ?_ _)); exact BK430.out⟩, ⟨by repeat (first | (with_reducible first | exact HB.out | apply below_alloc | apply pw_below_drewN | apply below_drew1 | refine below_set ?_ GE430.out) | exact HB.out)⟩⟩
      · replace c12 := Bool.eq_false_iff.mpr c12
        subst c12
        have H1 : (horariumlaw47_LogTurned.j0 k a1 a2 true a0_0 l0_1) = some r := by rw [if_neg (show ¬ (false = true) by decide)] at H; exact H
        clear H
        have H := H1
        clear H1
        have H' := Aside0.mk H
        clear H
        go_wp2_with (first | ((with_reducible refine gate_dst (N := 16) rfl ?_); (try (refine gate_guard (by rfl) ?_; dsimp only)); refine Kd.R_lit (lent68 w) _ 68 ?hg (N := 16) ?hd (xs := ([(⟨a0_0, l0_1⟩ : S68)] : List (S68))) (inner := [.int .i64 a0_0, .slice A0_1 l0_1.length c0_1]) (ok := fun _ => True) (okp := fun _ => True) ?hr ?hp (fun _ hk => hk) trivial (Below.refl _ _) (Nat.le_refl _) (by simp) ?_; (case hd => rfl); (case hg => rfl); (case hr => first | (go_simp; done) | (go_simp; rfl)); (case hp => exact (Reps.c2 (lent68_mk (⟨a0_0, l0_1⟩ : S68) HC0_1.out HR0_1.out) (Reps.none _ _))); intro v438 w19 ho20 hb hg_ hnew_; clear hg_ hnew_; (first | rw [← Ny437.out] at ho20 | (simp only [Int.reduceToNat] at ho20; rw [← Ny437.out] at ho20)); have n1_ := Aside0.mk (blk_below (g := gb430) (o := .cells #[.int .i64 a0_0, .slice A0_1 l0_1.length c0_1] 68 (0, 0)) (by (with_reducible repeat (first | refine blk_drewN ?_ _ | refine blk_drew ?_ | refine blk_alloc ?_ _)); exact BK430.out) hb); have n2_ := Aside0.mk (below_step (by repeat (first | (with_reducible first | exact HB.out | apply below_alloc | apply pw_below_drewN | apply below_drew1 | refine below_set ?_ GE430.out) | exact HB.out)) hb); clear BK430; clear HB; have BK430 := n1_; have HB := n2_; clear n1_ n2_; obtain ⟨Ao21, co21, eo21, hl_, hC_⟩ := lent68_reads ho20 HB.out; subst eo21; have HO439 := Aside0.mk hC_; have HL439 := Aside0.mk hl_; clear hC_ hl_; clear hb ho20) | ((with_reducible refine gate_callee (f := 100) rfl ?_); refine goesL_ (some 17) rfl rfl Try.func100 (by kernel_rfl) rfl #[.slice Ao21 y437.length co21] rfl (by (try simp only [List.map_toArray, List.map_cons, List.map_nil]); first | done | rfl | (simp only [List.length_drop, List.length_take]; rfl)) ?_; (with_reducible refine (horariumlaw47_few.calls k _ _ y437 false _ ?side1 ?side2 A11.out).mono ?_); (case side1 => repeat (first | exact HO439.out | (with_reducible refine Kd.C_alloc ?_ _) | (with_reducible refine Kd.C_drewN ?_ _) | (with_reducible refine Kd.C_drew ?_))); (case side2 => exact HL439.out); rintro e w22 ⟨rfl, hb⟩; refine ⟨_, rfl, ?_⟩; have n0_ := Aside0.mk trivial; have n1_ := Aside0.mk (blk_below (g := gb430) (o := .cells #[.int .i64 a0_0, .slice A0_1 l0_1.length c0_1] 68 (0, 0)) (by (with_reducible repeat (first | refine blk_drewN ?_ _ | refine blk_drew ?_ | refine blk_alloc ?_ _)); exact BK430.out) hb); have n2_ := Aside0.mk (below_step (by repeat (first | (with_reducible first | exact HB.out | apply below_alloc | apply pw_below_drewN | apply below_drew1 | refine below_set ?_ GE430.out) | exact HB.out)) hb); clear HO439; clear BK430; clear HB; have HO439 := n0_; have BK430 := n1_; have HB := n2_; clear n0_ n1_ n2_; (try clear hb); (try clear hb2); (try clear hk); (try clear hi)))
        go_meet
        case rel => exact ⟨_, (true), (by first | rfl | (simp; done) | (simp [*]; done)), H', ⟨by first | omega | exact Nat.le_refl _⟩, ⟨by (with_reducible repeat (first | refine blk_drewN ?_ _ | refine blk_drew ?_ | refine blk_alloc ?_ _)); exact BK430.out⟩, ⟨by repeat (first | (with_reducible first | exact HB.out | apply below_alloc | apply pw_below_drewN | apply below_drew1 | refine below_set ?_ GE430.out) | exact HB.out)⟩⟩
    case rest =>
      clear HC5
      try clear c1
      try clear c2
      try clear p2
      try clear c4
      try clear c10
      try clear c12
      try clear hcz7_0
      try clear hcz7_1
      try clear hfz7_0
      try clear hfz7_1
      obtain ⟨kq, x22_4, rfl, HA, HJ4, BK430, HB⟩ := hcut
      cases kq with
      | zero => exact absurd HA.out (by simp [horariumlaw47_LogTurned.j0])
      | succ kj4 =>
        have H := HA.out
        clear HA
        simp only [horariumlaw47_LogTurned.j0] at H
        by_cases c23 : x22_4 = true
        · subst c23
          have H1 : ((horariumlaw47_heads.f kj4).bind fun t441 => (some t441)) = some r := by rw [if_pos rfl] at H; exact H
          clear H
          have H := H1
          clear H1
          replace H := Option.bind_eq_some_iff.mp H
          obtain ⟨t441, A240, H⟩ := H
          replace H : (some t441) = some r := H
          have A24 := Aside0.mk A240
          clear A240
          obtain rfl := Option.some.inj H
          go_wp2_with (first | ((with_reducible refine gate_callee (f := 101) rfl ?_); refine goesL_ (some 23) rfl rfl Try.func101 (by kernel_rfl) rfl #[] rfl (by (try simp only [List.map_toArray, List.map_cons, List.map_nil]); first | done | rfl | (simp only [List.length_drop, List.length_take]; rfl)) ?_; (with_reducible refine (horariumlaw47_heads.calls kj4  t441 _ A24.out).mono ?_); rintro e w25 ⟨rfl, hb⟩; refine ⟨_, rfl, ?_⟩; have n0_ := Aside0.mk (blk_below (g := gb430) (o := .cells #[.int .i64 a0_0, .slice A0_1 l0_1.length c0_1] 68 (0, 0)) (by (with_reducible repeat (first | refine blk_drewN ?_ _ | refine blk_drew ?_ | refine blk_alloc ?_ _)); exact BK430.out) hb); have n1_ := Aside0.mk (below_step (by repeat (first | (with_reducible first | exact HB.out | apply below_alloc | apply pw_below_drewN | apply below_drew1 | refine below_set ?_ GE430.out) | exact HB.out)) hb); clear BK430; clear HB; have BK430 := n0_; have HB := n1_; clear n0_ n1_; (try clear hb); (try clear hb2); (try clear hk); (try clear hi)))
          go_ret
          exact ⟨by first | rfl | (simp [errW_none, errW_some] <;> rfl) | (simp [*, errW_none, errW_some] <;> rfl), by repeat (first | (with_reducible first | exact HB.out | apply below_alloc | apply pw_below_drewN | apply below_drew1 | refine below_set ?_ GE430.out) | exact HB.out)⟩
        · replace c23 := Bool.eq_false_iff.mpr c23
          subst c23
          have H1 : ((log_Frame.f kj4 a0_0 l0_1).bind fun bt442 => (if bt442.2 = 0 then (if a1 < 0 then (horariumlaw47_LogTurned.j1 kj4 a1 a2 bt442.1 true a0_0 l0_1) else (horariumlaw47_LogTurned.j1 kj4 a1 a2 bt442.1 (decide (a1 ≥ (bt442.1.length : Int))) a0_0 l0_1)) else (horariumlaw47_LogTurned.j1 kj4 a1 a2 bt442.1 true a0_0 l0_1))) = some r := by rw [if_neg (show ¬ (false = true) by decide)] at H; exact H
          clear H
          have H := H1
          clear H1
          replace H := Option.bind_eq_some_iff.mp H
          obtain ⟨⟨t442, t445⟩, A260, H⟩ := H
          replace H : (if t445 = 0 then (if a1 < 0 then (horariumlaw47_LogTurned.j1 kj4 a1 a2 t442 true a0_0 l0_1) else (horariumlaw47_LogTurned.j1 kj4 a1 a2 t442 (decide (a1 ≥ (t442.length : Int))) a0_0 l0_1)) else (horariumlaw47_LogTurned.j1 kj4 a1 a2 t442 true a0_0 l0_1)) = some r := H
          have A26 := Aside0.mk A260
          clear A260
          have HC27 := Aside0.mk H
          clear H
          have hcz28_0 : wc.cell? ⟨gb430, 0, none⟩ = some (.int .i64 a0_0) := (blk_cell BK430.out 0).trans rfl
          have hcz28_1 : wc.cell? ⟨gb430, 1, none⟩ = some (.slice A0_1 l0_1.length c0_1) := (blk_cell BK430.out 1).trans rfl
          have hfz28_0 := blk_frozen BK430.out 0
          have hfz28_1 := blk_frozen BK430.out 1
          go_upto_region 4 with (first | ((with_reducible refine gate_callee (f := 108) rfl ?_); refine goesL_ (some 26) rfl rfl Try.func108 (by kernel_rfl) rfl #[.agg #[.int .i64 a0_0, .slice A0_1 l0_1.length c0_1]] rfl (by (try simp only [List.map_toArray, List.map_cons, List.map_nil]); first | done | rfl | (simp only [List.length_drop, List.length_take]; rfl)) ?_; (with_reducible refine (log_Frame.calls kj4 a0_0 _ _ l0_1 t442 t445 _ ?side1 ?side2 A26.out).mono ?_); (case side1 => repeat (first | exact (Kd.C_below HR0_1.out HB.out) | (with_reducible refine Kd.C_alloc ?_ _) | (with_reducible refine Kd.C_drewN ?_ _) | (with_reducible refine Kd.C_drew ?_))); (case side2 => exact HC0_1.out); rintro e w29 ⟨v443, rfl, ho0, hb⟩; refine ⟨_, rfl, ?_⟩; have n0_ := Aside0.mk (Kd.R_lower ho0 (below_size (by repeat (first | (with_reducible first | exact HB.out | apply below_alloc | apply pw_below_drewN | apply below_drew1 | refine below_set ?_ GE430.out) | exact HB.out)))); have n1_ := Aside0.mk (blk_below (g := gb430) (o := .cells #[.int .i64 a0_0, .slice A0_1 l0_1.length c0_1] 68 (0, 0)) (by (with_reducible repeat (first | refine blk_drewN ?_ _ | refine blk_drew ?_ | refine blk_alloc ?_ _)); exact BK430.out) hb); have n2_ := Aside0.mk (below_step (by repeat (first | (with_reducible first | exact HB.out | apply below_alloc | apply pw_below_drewN | apply below_drew1 | refine below_set ?_ GE430.out) | exact HB.out)) hb); clear BK430; clear HB; have HO444 := n0_; have BK430 := n1_; have HB := n2_; clear n0_ n1_ n2_; (try clear hb); (try clear hb2); (try clear hk); (try clear hi); (try clear ho0)))
          (try simp only [Act.put, List.setIfInBounds_toArray, List.set_cons_zero, List.set_cons_succ])
          go_cut [40] (fun v40 wc => ∃ (kq : Nat) (x40_26 : Bool), v40 = .bool x40_26 ∧ Aside0 (horariumlaw47_LogTurned.j1 kq a1 a2 t442 x40_26 a0_0 l0_1 = some r) ∧ Aside0 (kq ≤ kj4) ∧ Aside0 (Kd.R (Kd.int .u8) 5 wc w.heap.size (fun _ => True) v443 t442) ∧ Aside0 (wc.heap[gb430]? = some (.cells #[.int .i64 a0_0, (.slice A0_1 l0_1.length c0_1)] 68 (0, 0))) ∧ Aside0 (Below w.heap.size w wc))
          case first =>
            have H := HC27.out
            clear HC27
            by_cases c30 : t445 = 0
            · rw [if_pos c30] at H
              have c30b0 : (t445 == 0) = true := beq_iff_eq.mpr c30
              have c30b1 : (t445 != 0) = false := bne_eq_false_iff_eq.mpr c30
              clear c30
              (first | rw [c30b0] | (simp only [i64_w, i32_w]; rw [c30b0]) | skip)
              by_cases c31 : a1 < 0
              · rw [if_pos c31] at H
                have c31b0 : decide (a1 < 0) = true := decide_eq_true c31
                clear c31
                have H' := Aside0.mk H
                clear H
                go_wp2
                go_meet
                case rel => exact ⟨_, (true), (by first | rfl | (simp; done) | (simp [*]; done)), H', ⟨by have := HJ4.out; first | omega | exact Nat.le_refl _⟩, ⟨by (with_reducible repeat (first | apply Kd.R_alloc | apply Kd.R_drewN | apply Kd.R_drew)); exact HO444.out⟩, ⟨by (with_reducible repeat (first | refine blk_drewN ?_ _ | refine blk_drew ?_ | refine blk_alloc ?_ _)); exact BK430.out⟩, ⟨by repeat (first | (with_reducible first | exact HB.out | apply below_alloc | apply pw_below_drewN | apply below_drew1 | refine below_set ?_ GE430.out) | exact HB.out)⟩⟩
              · rw [if_neg c31] at H
                have c31b0 : decide (a1 < 0) = false := decide_eq_false c31
                clear c31
                have H' := Aside0.mk H
                clear H
                obtain ⟨Ao32, co32, eo32⟩ := Kd.R_slice HO444.out
                subst eo32
                go_wp2
                go_meet
                case rel => exact ⟨_, (decide (a1 ≥ (t442.length : Int))), (by first | rfl | (simp; done) | (simp [*]; done)), H', ⟨by have := HJ4.out; first | omega | exact Nat.le_refl _⟩, ⟨by (with_reducible repeat (first | apply Kd.R_alloc | apply Kd.R_drewN | apply Kd.R_drew)); exact HO444.out⟩, ⟨by (with_reducible repeat (first | refine blk_drewN ?_ _ | refine blk_drew ?_ | refine blk_alloc ?_ _)); exact BK430.out⟩, ⟨by repeat (first | (with_reducible first | exact HB.out | apply below_alloc | apply pw_below_drewN | apply below_drew1 | refine below_set ?_ GE430.out) | exact HB.out)⟩⟩
            · rw [if_neg c30] at H
              have c30b0 : (t445 == 0) = false := beq_eq_false_iff_ne.mpr c30
              have c30b1 : (t445 != 0) = true := bne_iff_ne.mpr c30
              (first | rw [c30b0] | (simp only [i64_w, i32_w]; rw [c30b0]) | skip)
              have H' := Aside0.mk H
              clear H
              go_wp2
              go_meet
              case rel => exact ⟨_, (true), (by first | rfl | (simp; done) | (simp [*]; done)), H', ⟨by have := HJ4.out; first | omega | exact Nat.le_refl _⟩, ⟨by (with_reducible repeat (first | apply Kd.R_alloc | apply Kd.R_drewN | apply Kd.R_drew)); exact HO444.out⟩, ⟨by (with_reducible repeat (first | refine blk_drewN ?_ _ | refine blk_drew ?_ | refine blk_alloc ?_ _)); exact BK430.out⟩, ⟨by repeat (first | (with_reducible first | exact HB.out | apply below_alloc | apply pw_below_drewN | apply below_drew1 | refine below_set ?_ GE430.out) | exact HB.out)⟩⟩
          case rest =>
            clear HC27
            try clear c1
            try clear c2
            try clear p2
            try clear c3
            try clear c4
            try clear c10
            try clear c12
            try clear c23
            try clear c25
            try clear c30
            try clear c30b0
            try clear c30b1
            try clear c31
            try clear c31b0
            try clear hcz28_0
            try clear hcz28_1
            try clear hcz7_0
            try clear hcz7_1
            try clear hfz28_0
            try clear hfz28_1
            try clear hfz7_0
            try clear hfz7_1
            try clear p2
            obtain ⟨kq, x40_26, rfl, HA, HJ26, HO_7, BK430, HB⟩ := hcut
            cases kq with
            | zero => exact absurd HA.out (by simp [horariumlaw47_LogTurned.j1])
            | succ kj26 =>
              have H := HA.out
              clear HA
              simp only [horariumlaw47_LogTurned.j1] at H
              by_cases c33 : x40_26 = true
              · subst c33
                have H1 : ((horariumlaw47_heads.f kj26).bind fun t446 => (some t446)) = some r := by rw [if_pos rfl] at H; exact H
                clear H
                have H := H1
                clear H1
                replace H := Option.bind_eq_some_iff.mp H
                obtain ⟨t446, A340, H⟩ := H
                replace H : (some t446) = some r := H
                have A34 := Aside0.mk A340
                clear A340
                obtain rfl := Option.some.inj H
                go_wp2_with (first | ((with_reducible refine gate_callee (f := 101) rfl ?_); refine goesL_ (some 41) rfl rfl Try.func101 (by kernel_rfl) rfl #[] rfl (by (try simp only [List.map_toArray, List.map_cons, List.map_nil]); first | done | rfl | (simp only [List.length_drop, List.length_take]; rfl)) ?_; (with_reducible refine (horariumlaw47_heads.calls kj26  t446 _ A34.out).mono ?_); rintro e w35 ⟨rfl, hb⟩; refine ⟨_, rfl, ?_⟩; have n0_ := Aside0.mk (Kd.R_below (by (with_reducible repeat (first | apply Kd.R_alloc | apply Kd.R_drewN | apply Kd.R_drew)); exact HO_7.out) hb); have n1_ := Aside0.mk (blk_below (g := gb430) (o := .cells #[.int .i64 a0_0, .slice A0_1 l0_1.length c0_1] 68 (0, 0)) (by (with_reducible repeat (first | refine blk_drewN ?_ _ | refine blk_drew ?_ | refine blk_alloc ?_ _)); exact BK430.out) hb); have n2_ := Aside0.mk (below_step (by repeat (first | (with_reducible first | exact HB.out | apply below_alloc | apply pw_below_drewN | apply below_drew1 | refine below_set ?_ GE430.out) | exact HB.out)) hb); clear HO_7; clear BK430; clear HB; have HO_7 := n0_; have BK430 := n1_; have HB := n2_; clear n0_ n1_ n2_; (try clear hb); (try clear hb2); (try clear hk); (try clear hi)))
                go_ret
                exact ⟨by first | rfl | (simp [errW_none, errW_some] <;> rfl) | (simp [*, errW_none, errW_some] <;> rfl), by repeat (first | (with_reducible first | exact HB.out | apply below_alloc | apply pw_below_drewN | apply below_drew1 | refine below_set ?_ GE430.out) | exact HB.out)⟩
              · replace c33 := Bool.eq_false_iff.mpr c33
                subst c33
                have H1 : ((some (([0] : List Int) : List Int)).bind fun y447 => (if y447.length + t442.length < 140737488355328 then ((log_Next.f kj26 (y447 ++ t442) 1).bind fun bt453 => (if bt453.2.2.2 = 0 then (if bt453.2.2.1 = (wrap64 ((t442.length : Int) + 1)) then (if bt453.1 = a0_0 then ((horariumref03_Same.f bt453.2.1 l0_1).bind fun t460 => (horariumlaw47_LogTurned.j2 kj26 a1 a2 t442 (!t460) a0_0 l0_1)) else (horariumlaw47_LogTurned.j2 kj26 a1 a2 t442 true a0_0 l0_1)) else (horariumlaw47_LogTurned.j2 kj26 a1 a2 t442 true a0_0 l0_1)) else (horariumlaw47_LogTurned.j2 kj26 a1 a2 t442 true a0_0 l0_1))) else (none))) = some r := by rw [if_neg (show ¬ (false = true) by decide)] at H; exact H
                clear H
                have H := H1
                clear H1
                obtain ⟨y447, hy447⟩ : ∃ y_ : List Int, y_ = (([0] : List Int)) := ⟨_, rfl⟩
                replace H : (if y447.length + t442.length < 140737488355328 then ((log_Next.f kj26 (y447 ++ t442) 1).bind fun bt453 => (if bt453.2.2.2 = 0 then (if bt453.2.2.1 = (wrap64 ((t442.length : Int) + 1)) then (if bt453.1 = a0_0 then ((horariumref03_Same.f bt453.2.1 l0_1).bind fun t460 => (horariumlaw47_LogTurned.j2 kj26 a1 a2 t442 (!t460) a0_0 l0_1)) else (horariumlaw47_LogTurned.j2 kj26 a1 a2 t442 true a0_0 l0_1)) else (horariumlaw47_LogTurned.j2 kj26 a1 a2 t442 true a0_0 l0_1)) else (horariumlaw47_LogTurned.j2 kj26 a1 a2 t442 true a0_0 l0_1))) else (none)) = some r := by first | (rw [hy447]; with_reducible exact H) | (have H2_ := (Option.bind_some _ _).symm.trans H; rw [hy447]; with_reducible exact H2_) | (have H2_ := (Option.bind_some _ _).symm.trans H; with_reducible exact H2_) | with_reducible exact H | (rw [hy447]; exact H) | exact H
                have Ny447 := Aside0.mk hy447
                clear hy447
                by_cases c36 : y447.length + t442.length < 140737488355328
                · rw [if_pos c36] at H
                  have LMc36 := Aside0.mk c36
                  clear c36
                  obtain ⟨y450, hy450⟩ : ∃ y_ : List Int, y_ = (y447 ++ t442) := ⟨_, rfl⟩
                  replace H : ((log_Next.f kj26 y450 1).bind fun bt453 => (if bt453.2.2.2 = 0 then (if bt453.2.2.1 = (wrap64 ((t442.length : Int) + 1)) then (if bt453.1 = a0_0 then ((horariumref03_Same.f bt453.2.1 l0_1).bind fun t460 => (horariumlaw47_LogTurned.j2 kj26 a1 a2 t442 (!t460) a0_0 l0_1)) else (horariumlaw47_LogTurned.j2 kj26 a1 a2 t442 true a0_0 l0_1)) else (horariumlaw47_LogTurned.j2 kj26 a1 a2 t442 true a0_0 l0_1)) else (horariumlaw47_LogTurned.j2 kj26 a1 a2 t442 true a0_0 l0_1))) = some r := by first | (rw [hy450]; with_reducible exact H) | (have H2_ := (Option.bind_some _ _).symm.trans H; rw [hy450]; with_reducible exact H2_) | (have H2_ := (Option.bind_some _ _).symm.trans H; with_reducible exact H2_) | with_reducible exact H | (rw [hy450]; exact H) | exact H
                  have Ny450 := Aside0.mk hy450
                  clear hy450
                  replace H := Option.bind_eq_some_iff.mp H
                  obtain ⟨⟨t453, t454, t457, t458⟩, A370, H⟩ := H
                  replace H : (if t458 = 0 then (if t457 = (wrap64 ((t442.length : Int) + 1)) then (if t453 = a0_0 then ((horariumref03_Same.f t454 l0_1).bind fun t460 => (horariumlaw47_LogTurned.j2 kj26 a1 a2 t442 (!t460) a0_0 l0_1)) else (horariumlaw47_LogTurned.j2 kj26 a1 a2 t442 true a0_0 l0_1)) else (horariumlaw47_LogTurned.j2 kj26 a1 a2 t442 true a0_0 l0_1)) else (horariumlaw47_LogTurned.j2 kj26 a1 a2 t442 true a0_0 l0_1)) = some r := H
                  have A37 := Aside0.mk A370
                  clear A370
                  have HC38 := Aside0.mk H
                  clear H
                  go_upto_region 7 with (first | ((with_reducible refine gate_dst (N := 43) rfl ?_); (try (refine gate_guard (by rfl) ?_; dsimp only)); refine Kd.R_lit (Kd.int .u8) _ 5 ?hg (N := 43) ?hd (xs := ([0] : List Int)) (inner := [.int .u8 0]) (ok := fun _ => True) (okp := fun _ => True) ?hr ?hp (fun _ hk => hk) trivial (Below.refl _ _) (Nat.le_refl _) (by simp) ?_; (case hd => rfl); (case hg => rfl); (case hr => first | (go_simp; done) | (go_simp; rfl)); (case hp => exact (Reps.one (show Kd.M (Kd.int .u8) _ _ _ 0 [.int .u8 0] from rfl) (Reps.none _ _))); intro v448 w39 ho40 hb hg_ hnew_; clear hg_ hnew_; (first | rw [← Ny447.out] at ho40 | (simp only [Int.reduceToNat] at ho40; rw [← Ny447.out] at ho40)); have n0_ := Aside0.mk (Kd.R_elder' (by (with_reducible repeat (first | apply Kd.R_alloc | apply Kd.R_drewN | apply Kd.R_drew)); exact HO_7.out) (Kd.R_base ho40) hb); have n1_ := Aside0.mk (Kd.R_lower (Kd.R_new' ho40 (Kd.R_lt (by (with_reducible repeat (first | apply Kd.R_alloc | apply Kd.R_drewN | apply Kd.R_drew)); exact HO_7.out))) (below_size (by repeat (first | (with_reducible first | exact HB.out | apply below_alloc | apply pw_below_drewN | apply below_drew1 | refine below_set ?_ GE430.out) | exact HB.out)))); have n2_ := Aside0.mk (blk_below (g := gb430) (o := .cells #[.int .i64 a0_0, .slice A0_1 l0_1.length c0_1] 68 (0, 0)) (by (with_reducible repeat (first | refine blk_drewN ?_ _ | refine blk_drew ?_ | refine blk_alloc ?_ _)); exact BK430.out) hb); have n3_ := Aside0.mk (below_step (by repeat (first | (with_reducible first | exact HB.out | apply below_alloc | apply pw_below_drewN | apply below_drew1 | refine below_set ?_ GE430.out) | exact HB.out)) hb); clear HO_7; clear BK430; clear HB; have HO_7 := n0_; have HO449 := n1_; have BK430 := n2_; have HB := n3_; clear n0_ n1_ n2_ n3_; clear hb ho40; obtain ⟨Ao42, co42, eo42⟩ := Kd.R_slice HO_7.out; subst eo42) | ((with_reducible refine gate_builtin (b := .append) (xs := #[.tmp 43, .tmp 44]) rfl ?_); (try (refine gate_guard (by rfl) ?_; dsimp only)); at_builtin; refine Kd.R_append_rows (Kd.int .u8) (w0 := w) w.heap.size rfl (.tmp 43) (.tmp 44) 44 5 (.int .u8 0) 1 rfl Try.underlying44 info5 rfl (by decide) (by omega) v448 y447 t442 _ _ _ (fun k_ => some k_ ≠ (.slice Ao42 t442.length co42 : Value).ownBlock) (fun _ => False) rfl rfl ?aO ?aR (fun _ _ h => h) (fun _ h => h.elim) ?aF ?aB ?aS ?aL ?_; (case aR => repeat (first | exact (Kd.R_reads' HO_7.out).2.2 | (with_reducible refine Kd.C_alloc ?_ _) | (with_reducible refine Kd.C_drewN ?_ _) | (with_reducible refine Kd.C_drew ?_))); (case aB => exact (by repeat (first | (with_reducible first | exact HB.out | apply below_alloc | apply pw_below_drewN | apply below_drew1 | refine below_set ?_ GE430.out) | exact HB.out))); (case aF => exact (fun k_ hk => Kd.fresh' (Kd.R_lt (by (with_reducible repeat (first | apply Kd.R_alloc | apply Kd.R_drewN | apply Kd.R_drew)); exact HO_7.out)) k_ hk)); (case aO => exact (by (with_reducible repeat (first | apply Kd.R_alloc | apply Kd.R_drewN | apply Kd.R_drew)); exact Kd.R_mono HO449.out (fun _ hk => hk.2))); (case aS => exact (below_size (by repeat (first | (with_reducible first | exact HB.out | apply below_alloc | apply pw_below_drewN | apply below_drew1 | refine below_set ?_ GE430.out) | exact HB.out)))); (case aL => have := LMc36.out; omega); intro v451 w41 ho hb hg hat; rw [← Ny450.out] at ho; have n0_ := Aside0.mk (Kd.R_after (ok := (fun _ => True)) (by (with_reducible repeat (first | apply Kd.R_alloc | apply Kd.R_drewN | apply Kd.R_drew)); exact HO_7.out) hg hat); have n1_ := Aside0.mk (blk_grown (g := gb430) (o := .cells #[.int .i64 a0_0, .slice A0_1 l0_1.length c0_1] 68 (0, 0)) (by (with_reducible repeat (first | refine blk_drewN ?_ _ | refine blk_drew ?_ | refine blk_alloc ?_ _)); exact BK430.out) hg (Kd.R_ne HO449.out BK430.out (by decide))); have n2_ := Aside0.mk (hb); have n3_ := Aside0.mk (ho); clear HO_7; clear BK430; clear HB; clear HO449; have HO_7 := n0_; have BK430 := n1_; have HB := n2_; have HO452 := n3_; clear n0_ n1_ n2_ n3_; clear ho hb hg hat; obtain ⟨Ao43, co43, eo43⟩ := Kd.R_slice HO452.out; subst eo43) | ((with_reducible refine gate_callee (f := 105) rfl ?_); refine goesL_ (some 46) rfl rfl Try.func105 (by kernel_rfl) rfl #[.slice Ao43 y450.length co43, .int .i64 1] rfl (by (try simp only [List.map_toArray, List.map_cons, List.map_nil]); first | done | rfl | (simp only [List.length_drop, List.length_take]; rfl)) ?_; (with_reducible refine (log_Next.calls kj26 _ _ y450 1 t453 t454 t457 t458 _ ?side1 ?side2 A37.out).mono ?_); (case side1 => repeat (first | exact (Kd.R_reads' HO452.out).2.2 | (with_reducible refine Kd.C_alloc ?_ _) | (with_reducible refine Kd.C_drewN ?_ _) | (with_reducible refine Kd.C_drew ?_))); (case side2 => exact (Kd.R_reads' HO452.out).2.1); rintro e w44 ⟨v455, rfl, ho0, hb⟩; refine ⟨_, rfl, ?_⟩; have n0_ := Aside0.mk (Kd.R_elder' (by (with_reducible repeat (first | apply Kd.R_alloc | apply Kd.R_drewN | apply Kd.R_drew)); exact HO_7.out) (Kd.R_base ho0) hb); have n1_ := Aside0.mk (Kd.R_elder' (by (with_reducible repeat (first | apply Kd.R_alloc | apply Kd.R_drewN | apply Kd.R_drew)); exact HO452.out) (Kd.R_base ho0) hb); have n2_ := Aside0.mk (Kd.R_lower (Kd.R_new' (Kd.R_new' ho0 (Kd.R_lt (by (with_reducible repeat (first | apply Kd.R_alloc | apply Kd.R_drewN | apply Kd.R_drew)); exact HO_7.out))) (Kd.R_lt (by (with_reducible repeat (first | apply Kd.R_alloc | apply Kd.R_drewN | apply Kd.R_drew)); exact HO452.out))) (below_size (by repeat (first | (with_reducible first | exact HB.out | apply below_alloc | apply pw_below_drewN | apply below_drew1 | refine below_set ?_ GE430.out) | exact HB.out)))); have n3_ := Aside0.mk (blk_below (g := gb430) (o := .cells #[.int .i64 a0_0, .slice A0_1 l0_1.length c0_1] 68 (0, 0)) (by (with_reducible repeat (first | refine blk_drewN ?_ _ | refine blk_drew ?_ | refine blk_alloc ?_ _)); exact BK430.out) hb); have n4_ := Aside0.mk (below_step (by repeat (first | (with_reducible first | exact HB.out | apply below_alloc | apply pw_below_drewN | apply below_drew1 | refine below_set ?_ GE430.out) | exact HB.out)) hb); clear HO_7; clear HO452; clear BK430; clear HB; have HO_7 := n0_; have HO452 := n1_; have HO456 := n2_; have BK430 := n3_; have HB := n4_; clear n0_ n1_ n2_ n3_ n4_; (try clear hb); (try clear hb2); (try clear hk); (try clear hi); (try clear ho0)) | ((with_reducible refine gate_dst (N := 9) rfl ?_); (try (refine gate_guard (by rfl) ?_; dsimp only)); refine box_event ?hg (N := 9) ?hd (cs := #[.int .i64 0, .slice none 0 0]) (t := 68) ?hr ?_; (case hd => rfl); (case hg => rfl); (case hr => first | (go_simp; done) | (go_simp; rfl)); intro gb459 hg w45 hbox hb; have n0_ := Aside0.mk (Kd.R_below (by (with_reducible repeat (first | apply Kd.R_alloc | apply Kd.R_drewN | apply Kd.R_drew)); exact HO_7.out) hb); have n1_ := Aside0.mk (Kd.R_below (by (with_reducible repeat (first | apply Kd.R_alloc | apply Kd.R_drewN | apply Kd.R_drew)); exact HO452.out) hb); have n2_ := Aside0.mk (Kd.R_below (by (with_reducible repeat (first | apply Kd.R_alloc | apply Kd.R_drewN | apply Kd.R_drew)); exact HO456.out) hb); have n3_ := Aside0.mk (blk_below (g := gb430) (o := .cells #[.int .i64 a0_0, .slice A0_1 l0_1.length c0_1] 68 (0, 0)) (by (with_reducible repeat (first | refine blk_drewN ?_ _ | refine blk_drew ?_ | refine blk_alloc ?_ _)); exact BK430.out) hb); have n4_ := Aside0.mk (below_step (by repeat (first | (with_reducible first | exact HB.out | apply below_alloc | apply pw_below_drewN | apply below_drew1 | refine below_set ?_ GE430.out) | exact HB.out)) hb); have n5_ := Aside0.mk (hbox); have n6_ := Aside0.mk ((by rw [hg]; exact (below_size (by repeat (first | (with_reducible first | exact HB.out | apply below_alloc | apply pw_below_drewN | apply below_drew1 | refine below_set ?_ GE430.out) | exact HB.out))) : w.heap.size ≤ gb459)); have n7_ := Aside0.mk ((by rw [hg]; exact (below_size (by repeat (first | (with_reducible first | exact HB.out | apply below_alloc | apply pw_below_drewN | apply below_drew1 | refine below_set ?_ GE430.out) | exact HB.out))) : w.heap.size ≤ gb459)); have n8_ := Aside0.mk ((by rw [hg]; exact Nat.ne_of_lt (blk_lt (g := gb430) (o := .cells #[.int .i64 a0_0, .slice A0_1 l0_1.length c0_1] 68 (0, 0)) (by (with_reducible repeat (first | refine blk_drewN ?_ _ | refine blk_drew ?_ | refine blk_alloc ?_ _)); exact BK430.out)) : gb430 ≠ gb459)); have n9_ := Aside0.mk ((by rw [hg]; exact Nat.ne_of_gt (blk_lt (g := gb430) (o := .cells #[.int .i64 a0_0, .slice A0_1 l0_1.length c0_1] 68 (0, 0)) (by (with_reducible repeat (first | refine blk_drewN ?_ _ | refine blk_drew ?_ | refine blk_alloc ?_ _)); exact BK430.out)) : gb459 ≠ gb430)); clear HO_7; clear HO452; clear HO456; clear BK430; clear HB; have HO_7 := n0_; have HO452 := n1_; have HO456 := n2_; have BK430 := n3_; have HB := n4_; have BK459 := n5_; have GW459 := n6_; have GE459 := n7_; have NB430_459 := n8_; have NB459_430 := n9_; clear n0_ n1_ n2_ n3_ n4_ n5_ n6_ n7_ n8_ n9_; clear hb hbox hg; have hnb46 := NB459_430.out; have hnc46 := NB430_459.out; have hcz47_0 : w45.cell? ⟨gb459, 0, none⟩ = some (.int .i64 0) := (blk_cell BK459.out 0).trans rfl; have hcz47_1 : w45.cell? ⟨gb459, 1, none⟩ = some (.slice none 0 0) := (blk_cell BK459.out 1).trans rfl; have hfz47_0 := blk_frozen BK459.out 0; have hfz47_1 := blk_frozen BK459.out 1; obtain ⟨Ao48, co48, eo48⟩ := Kd.R_slice HO456.out; subst eo48))
                  (try simp only [Act.put, List.setIfInBounds_toArray, List.set_cons_zero, List.set_cons_succ])
                  go_cut [73] (fun v73 wc => ∃ (kq : Nat) (x73_37 : Bool), v73 = .bool x73_37 ∧ Aside0 (horariumlaw47_LogTurned.j2 kq a1 a2 t442 x73_37 a0_0 l0_1 = some r) ∧ Aside0 (kq ≤ kj26) ∧ Aside0 (Kd.R (Kd.int .u8) 5 wc w.heap.size (fun k_ => some k_ ≠ ((.slice Ao48 t454.length co48) : Value).ownBlock) (.slice Ao42 t442.length co42) t442) ∧ Aside0 (Kd.R (Kd.int .u8) 5 wc w.heap.size (fun k_ => some k_ ≠ ((.slice Ao42 t442.length co42) : Value).ownBlock) (.slice Ao48 t454.length co48) t454) ∧ Aside0 (wc.heap[gb430]? = some (.cells #[.int .i64 a0_0, (.slice A0_1 l0_1.length c0_1)] 68 (0, 0))) ∧ Aside0 (wc.heap[gb459]? = some (.cells #[.int .i64 t453, (.slice Ao48 t454.length co48)] 68 (0, 0))) ∧ Aside0 (Below w.heap.size w wc))
                  case first =>
                    have H := HC38.out
                    clear HC38
                    by_cases c49 : t458 = 0
                    · rw [if_pos c49] at H
                      have c49b0 : (t458 == 0) = true := beq_iff_eq.mpr c49
                      have c49b1 : (t458 != 0) = false := bne_eq_false_iff_eq.mpr c49
                      clear c49
                      (first | rw [c49b0] | (simp only [i64_w, i32_w]; rw [c49b0]) | skip)
                      by_cases c50 : t457 = (wrap64 ((t442.length : Int) + 1))
                      · rw [if_pos c50] at H
                        have c50b0 : (t457 == (wrap64 ((t442.length : Int) + 1))) = true := beq_iff_eq.mpr c50
                        have c50b1 : (t457 != (wrap64 ((t442.length : Int) + 1))) = false := bne_eq_false_iff_eq.mpr c50
                        clear c50
                        by_cases c51 : t453 = a0_0
                        · rw [if_pos c51] at H
                          have c51b0 : (t453 == a0_0) = true := beq_iff_eq.mpr c51
                          have c51b1 : (t453 != a0_0) = false := bne_eq_false_iff_eq.mpr c51
                          clear c51
                          replace H := Option.bind_eq_some_iff.mp H
                          obtain ⟨t460, A520, H⟩ := H
                          replace H : (horariumlaw47_LogTurned.j2 kj26 a1 a2 t442 (!t460) a0_0 l0_1) = some r := H
                          have A52 := Aside0.mk A520
                          clear A520
                          have H' := Aside0.mk H
                          clear H
                          have hnb53 := NB459_430.out
                          have hnc53 := NB430_459.out
                          have hcz54_0 : w45.cell? ⟨gb459, 0, none⟩ = some (.int .i64 0) := (blk_cell BK459.out 0).trans rfl
                          have hcz54_1 : w45.cell? ⟨gb459, 1, none⟩ = some (.slice none 0 0) := (blk_cell BK459.out 1).trans rfl
                          have hfz54_0 := blk_frozen BK459.out 0
                          have hfz54_1 := blk_frozen BK459.out 1
                          have hcz55_0 : w45.cell? ⟨gb430, 0, none⟩ = some (.int .i64 a0_0) := (blk_cell BK430.out 0).trans rfl
                          have hcz55_1 : w45.cell? ⟨gb430, 1, none⟩ = some (.slice A0_1 l0_1.length c0_1) := (blk_cell BK430.out 1).trans rfl
                          have hfz55_0 := blk_frozen BK430.out 0
                          have hfz55_1 := blk_frozen BK430.out 1
                          go_wp2_with (first | (go_at_call 46; (with_reducible refine (horariumref03_Same.calls _ _ t454 _ _ l0_1 t460 _ ?side1 ?side2 ?side3 ?side4 A52.out).mono ?_); (case side1 => refine (Kd.R_reads' (e := 5) (base := w.heap.size) (ok := fun k_ => ((True ∧ some k_ ≠ (.slice Ao42 t442.length co42 : Value).ownBlock) ∧ some k_ ≠ (.slice Ao43 y450.length co43 : Value).ownBlock)) (n := t454.length) (c := co48) ?_).2.2; exact (by (with_reducible repeat (first | apply Kd.R_alloc | apply Kd.R_drewN | apply Kd.R_drew)); exact (Kd.R_mono (Kd.R_far (p := ⟨gb459, 1, none⟩) (Kd.R_far (p := ⟨gb459, 0, none⟩) (Kd.R_types HO456.out BK459.out (by decide)) (fun _ hk => hk.2) (.int .i64 t453)) (fun _ hk => hk.2) (.slice Ao48 t454.length co48)) (fun _ h_ => h_.1)))); (case side2 => exact (Kd.R_reads' HO456.out).2.1); (case side3 => exact Kd.C_below HR0_1.out (by repeat (first | (with_reducible first | exact HB.out | apply below_alloc | apply pw_below_drewN | apply below_drew1 | refine below_set ?_ GE430.out | refine below_set ?_ GE459.out) | exact HB.out))); (case side4 => exact HC0_1.out); rintro e w' ⟨rfl, ⟨nd, rfl⟩⟩))
                          go_meet
                          case rel => exact ⟨_, (!t460), (by first | rfl | (simp; done) | (simp [*]; done)), H', ⟨by have := HJ4.out; have := HJ26.out; first | omega | exact Nat.le_refl _⟩, ⟨by (with_reducible repeat (first | apply Kd.R_alloc | apply Kd.R_drewN | apply Kd.R_drew)); exact Kd.R_mono (Kd.R_far (p := ⟨gb459, 1, none⟩) (Kd.R_far (p := ⟨gb459, 0, none⟩) (Kd.R_types HO_7.out BK459.out (by decide)) (fun _ hk => hk.2) (.int .i64 t453)) (fun _ hk => hk.2) (.slice Ao48 t454.length co48)) (fun _ hk => hk.1.2)⟩, ⟨by (with_reducible repeat (first | apply Kd.R_alloc | apply Kd.R_drewN | apply Kd.R_drew)); exact Kd.R_mono (Kd.R_far (p := ⟨gb459, 1, none⟩) (Kd.R_far (p := ⟨gb459, 0, none⟩) (Kd.R_types HO456.out BK459.out (by decide)) (fun _ hk => hk.2) (.int .i64 t453)) (fun _ hk => hk.2) (.slice Ao48 t454.length co48)) (fun _ hk => hk.1.1.2)⟩, ⟨by (with_reducible repeat (first | refine blk_drewN ?_ _ | refine blk_drew ?_ | refine blk_alloc ?_ _)); refine blk_far ?_ NB430_459.out _; (with_reducible repeat (first | refine blk_drewN ?_ _ | refine blk_drew ?_ | refine blk_alloc ?_ _)); refine blk_far ?_ NB430_459.out _; (with_reducible repeat (first | refine blk_drewN ?_ _ | refine blk_drew ?_ | refine blk_alloc ?_ _)); exact BK430.out⟩, ⟨by (with_reducible repeat (first | refine blk_drewN ?_ _ | refine blk_drew ?_ | refine blk_alloc ?_ _)); refine blk_put (cs := #[.int .i64 t453, .slice none 0 0]) ?_ 1 _ rfl; (with_reducible repeat (first | refine blk_drewN ?_ _ | refine blk_drew ?_ | refine blk_alloc ?_ _)); refine blk_put (cs := #[.int .i64 0, .slice none 0 0]) ?_ 0 _ rfl; (with_reducible repeat (first | refine blk_drewN ?_ _ | refine blk_drew ?_ | refine blk_alloc ?_ _)); exact BK459.out⟩, ⟨by repeat (first | (with_reducible first | exact HB.out | apply below_alloc | apply pw_below_drewN | apply below_drew1 | refine below_set ?_ GE430.out | refine below_set ?_ GE459.out) | exact HB.out)⟩⟩
                        · rw [if_neg c51] at H
                          have c51b0 : (t453 == a0_0) = false := beq_eq_false_iff_ne.mpr c51
                          have c51b1 : (t453 != a0_0) = true := bne_iff_ne.mpr c51
                          have H' := Aside0.mk H
                          clear H
                          have hnb56 := NB459_430.out
                          have hnc56 := NB430_459.out
                          have hcz57_0 : w45.cell? ⟨gb459, 0, none⟩ = some (.int .i64 0) := (blk_cell BK459.out 0).trans rfl
                          have hcz57_1 : w45.cell? ⟨gb459, 1, none⟩ = some (.slice none 0 0) := (blk_cell BK459.out 1).trans rfl
                          have hfz57_0 := blk_frozen BK459.out 0
                          have hfz57_1 := blk_frozen BK459.out 1
                          have hcz58_0 : w45.cell? ⟨gb430, 0, none⟩ = some (.int .i64 a0_0) := (blk_cell BK430.out 0).trans rfl
                          have hcz58_1 : w45.cell? ⟨gb430, 1, none⟩ = some (.slice A0_1 l0_1.length c0_1) := (blk_cell BK430.out 1).trans rfl
                          have hfz58_0 := blk_frozen BK430.out 0
                          have hfz58_1 := blk_frozen BK430.out 1
                          go_wp2
                          go_meet
                          case rel => exact ⟨_, (true), (by first | rfl | (simp; done) | (simp [*]; done)), H', ⟨by have := HJ4.out; have := HJ26.out; first | omega | exact Nat.le_refl _⟩, ⟨by (with_reducible repeat (first | apply Kd.R_alloc | apply Kd.R_drewN | apply Kd.R_drew)); exact Kd.R_mono (Kd.R_far (p := ⟨gb459, 1, none⟩) (Kd.R_far (p := ⟨gb459, 0, none⟩) (Kd.R_types HO_7.out BK459.out (by decide)) (fun _ hk => hk.2) (.int .i64 t453)) (fun _ hk => hk.2) (.slice Ao48 t454.length co48)) (fun _ hk => hk.1.2)⟩, ⟨by (with_reducible repeat (first | apply Kd.R_alloc | apply Kd.R_drewN | apply Kd.R_drew)); exact Kd.R_mono (Kd.R_far (p := ⟨gb459, 1, none⟩) (Kd.R_far (p := ⟨gb459, 0, none⟩) (Kd.R_types HO456.out BK459.out (by decide)) (fun _ hk => hk.2) (.int .i64 t453)) (fun _ hk => hk.2) (.slice Ao48 t454.length co48)) (fun _ hk => hk.1.1.2)⟩, ⟨by (with_reducible repeat (first | refine blk_drewN ?_ _ | refine blk_drew ?_ | refine blk_alloc ?_ _)); refine blk_far ?_ NB430_459.out _; (with_reducible repeat (first | refine blk_drewN ?_ _ | refine blk_drew ?_ | refine blk_alloc ?_ _)); refine blk_far ?_ NB430_459.out _; (with_reducible repeat (first | refine blk_drewN ?_ _ | refine blk_drew ?_ | refine blk_alloc ?_ _)); exact BK430.out⟩, ⟨by (with_reducible repeat (first | refine blk_drewN ?_ _ | refine blk_drew ?_ | refine blk_alloc ?_ _)); refine blk_put (cs := #[.int .i64 t453, .slice none 0 0]) ?_ 1 _ rfl; (with_reducible repeat (first | refine blk_drewN ?_ _ | refine blk_drew ?_ | refine blk_alloc ?_ _)); refine blk_put (cs := #[.int .i64 0, .slice none 0 0]) ?_ 0 _ rfl; (with_reducible repeat (first | refine blk_drewN ?_ _ | refine blk_drew ?_ | refine blk_alloc ?_ _)); exact BK459.out⟩, ⟨by repeat (first | (with_reducible first | exact HB.out | apply below_alloc | apply pw_below_drewN | apply below_drew1 | refine below_set ?_ GE430.out | refine below_set ?_ GE459.out) | exact HB.out)⟩⟩
                      · rw [if_neg c50] at H
                        have c50b0 : (t457 == (wrap64 ((t442.length : Int) + 1))) = false := beq_eq_false_iff_ne.mpr c50
                        have c50b1 : (t457 != (wrap64 ((t442.length : Int) + 1))) = true := bne_iff_ne.mpr c50
                        have H' := Aside0.mk H
                        clear H
                        go_wp2
                        go_meet
                        case rel => exact ⟨_, (true), (by first | rfl | (simp; done) | (simp [*]; done)), H', ⟨by have := HJ4.out; have := HJ26.out; first | omega | exact Nat.le_refl _⟩, ⟨by (with_reducible repeat (first | apply Kd.R_alloc | apply Kd.R_drewN | apply Kd.R_drew)); exact Kd.R_mono (Kd.R_far (p := ⟨gb459, 1, none⟩) (Kd.R_far (p := ⟨gb459, 0, none⟩) (Kd.R_types HO_7.out BK459.out (by decide)) (fun _ hk => hk.2) (.int .i64 t453)) (fun _ hk => hk.2) (.slice Ao48 t454.length co48)) (fun _ hk => hk.1.2)⟩, ⟨by (with_reducible repeat (first | apply Kd.R_alloc | apply Kd.R_drewN | apply Kd.R_drew)); exact Kd.R_mono (Kd.R_far (p := ⟨gb459, 1, none⟩) (Kd.R_far (p := ⟨gb459, 0, none⟩) (Kd.R_types HO456.out BK459.out (by decide)) (fun _ hk => hk.2) (.int .i64 t453)) (fun _ hk => hk.2) (.slice Ao48 t454.length co48)) (fun _ hk => hk.1.1.2)⟩, ⟨by (with_reducible repeat (first | refine blk_drewN ?_ _ | refine blk_drew ?_ | refine blk_alloc ?_ _)); refine blk_far ?_ NB430_459.out _; (with_reducible repeat (first | refine blk_drewN ?_ _ | refine blk_drew ?_ | refine blk_alloc ?_ _)); refine blk_far ?_ NB430_459.out _; (with_reducible repeat (first | refine blk_drewN ?_ _ | refine blk_drew ?_ | refine blk_alloc ?_ _)); exact BK430.out⟩, ⟨by (with_reducible repeat (first | refine blk_drewN ?_ _ | refine blk_drew ?_ | refine blk_alloc ?_ _)); refine blk_put (cs := #[.int .i64 t453, .slice none 0 0]) ?_ 1 _ rfl; (with_reducible repeat (first | refine blk_drewN ?_ _ | refine blk_drew ?_ | refine blk_alloc ?_ _)); refine blk_put (cs := #[.int .i64 0, .slice none 0 0]) ?_ 0 _ rfl; (with_reducible repeat (first | refine blk_drewN ?_ _ | refine blk_drew ?_ | refine blk_alloc ?_ _)); exact BK459.out⟩, ⟨by repeat (first | (with_reducible first | exact HB.out | apply below_alloc | apply pw_below_drewN | apply below_drew1 | refine below_set ?_ GE430.out | refine below_set ?_ GE459.out) | exact HB.out)⟩⟩
                    · rw [if_neg c49] at H
                      have c49b0 : (t458 == 0) = false := beq_eq_false_iff_ne.mpr c49
                      have c49b1 : (t458 != 0) = true := bne_iff_ne.mpr c49
                      (first | rw [c49b0] | (simp only [i64_w, i32_w]; rw [c49b0]) | skip)
                      have H' := Aside0.mk H
                      clear H
                      go_wp2
                      go_meet
                      case rel => exact ⟨_, (true), (by first | rfl | (simp; done) | (simp [*]; done)), H', ⟨by have := HJ4.out; have := HJ26.out; first | omega | exact Nat.le_refl _⟩, ⟨by (with_reducible repeat (first | apply Kd.R_alloc | apply Kd.R_drewN | apply Kd.R_drew)); exact Kd.R_mono (Kd.R_far (p := ⟨gb459, 1, none⟩) (Kd.R_far (p := ⟨gb459, 0, none⟩) (Kd.R_types HO_7.out BK459.out (by decide)) (fun _ hk => hk.2) (.int .i64 t453)) (fun _ hk => hk.2) (.slice Ao48 t454.length co48)) (fun _ hk => hk.1.2)⟩, ⟨by (with_reducible repeat (first | apply Kd.R_alloc | apply Kd.R_drewN | apply Kd.R_drew)); exact Kd.R_mono (Kd.R_far (p := ⟨gb459, 1, none⟩) (Kd.R_far (p := ⟨gb459, 0, none⟩) (Kd.R_types HO456.out BK459.out (by decide)) (fun _ hk => hk.2) (.int .i64 t453)) (fun _ hk => hk.2) (.slice Ao48 t454.length co48)) (fun _ hk => hk.1.1.2)⟩, ⟨by (with_reducible repeat (first | refine blk_drewN ?_ _ | refine blk_drew ?_ | refine blk_alloc ?_ _)); refine blk_far ?_ NB430_459.out _; (with_reducible repeat (first | refine blk_drewN ?_ _ | refine blk_drew ?_ | refine blk_alloc ?_ _)); refine blk_far ?_ NB430_459.out _; (with_reducible repeat (first | refine blk_drewN ?_ _ | refine blk_drew ?_ | refine blk_alloc ?_ _)); exact BK430.out⟩, ⟨by (with_reducible repeat (first | refine blk_drewN ?_ _ | refine blk_drew ?_ | refine blk_alloc ?_ _)); refine blk_put (cs := #[.int .i64 t453, .slice none 0 0]) ?_ 1 _ rfl; (with_reducible repeat (first | refine blk_drewN ?_ _ | refine blk_drew ?_ | refine blk_alloc ?_ _)); refine blk_put (cs := #[.int .i64 0, .slice none 0 0]) ?_ 0 _ rfl; (with_reducible repeat (first | refine blk_drewN ?_ _ | refine blk_drew ?_ | refine blk_alloc ?_ _)); exact BK459.out⟩, ⟨by repeat (first | (with_reducible first | exact HB.out | apply below_alloc | apply pw_below_drewN | apply below_drew1 | refine below_set ?_ GE430.out | refine below_set ?_ GE459.out) | exact HB.out)⟩⟩
                  case rest =>
                    clear HC38
                    try clear c1
                    try clear c2
                    try clear p2
                    try clear c3
                    try clear c4
                    try clear c5
                    try clear p6
                    try clear c10
                    try clear c12
                    try clear c23
                    try clear c25
                    try clear c30
                    try clear c30b0
                    try clear c30b1
                    try clear c31
                    try clear c31b0
                    try clear c33
                    try clear c36
                    try clear c46
                    try clear c49
                    try clear c49b0
                    try clear c49b1
                    try clear c50
                    try clear c50b0
                    try clear c50b1
                    try clear c51
                    try clear c51b0
                    try clear c51b1
                    try clear c53
                    try clear c56
                    try clear hcz28_0
                    try clear hcz28_1
                    try clear hcz47_0
                    try clear hcz47_1
                    try clear hcz54_0
                    try clear hcz54_1
                    try clear hcz55_0
                    try clear hcz55_1
                    try clear hcz57_0
                    try clear hcz57_1
                    try clear hcz58_0
                    try clear hcz58_1
                    try clear hcz7_0
                    try clear hcz7_1
                    try clear hfz28_0
                    try clear hfz28_1
                    try clear hfz47_0
                    try clear hfz47_1
                    try clear hfz54_0
                    try clear hfz54_1
                    try clear hfz55_0
                    try clear hfz55_1
                    try clear hfz57_0
                    try clear hfz57_1
                    try clear hfz58_0
                    try clear hfz58_1
                    try clear hfz7_0
                    try clear hfz7_1
                    try clear p2
                    obtain ⟨kq, x73_37, rfl, HA, HJ37, HO_7, HO_460001, BK430, BK459, HB⟩ := hcut
                    cases kq with
                    | zero => exact absurd HA.out (by simp [horariumlaw47_LogTurned.j2])
                    | succ kj37 =>
                      have H := HA.out
                      clear HA
                      simp only [horariumlaw47_LogTurned.j2] at H
                      by_cases c59 : x73_37 = true
                      · subst c59
                        have H1 : (some false) = some r := by rw [if_pos rfl] at H; exact H
                        clear H
                        have H := H1
                        clear H1
                        exact absurd ((Option.some.inj H).trans hr_) Bool.false_ne_true
                      · replace c59 := Bool.eq_false_iff.mpr c59
                        subst c59
                        have H1 : (if a1 = 1 then (horariumlaw47_LogTurned.j3 kj37 a1 a2 t442 false) else (horariumlaw47_LogTurned.j3 kj37 a1 a2 t442 (decide (a1 < (wrap64 ((wrap64 ((t442.length : Int) - 4)) - (l0_1.length : Int))))))) = some r := by rw [if_neg (show ¬ (false = true) by decide)] at H; exact H
                        clear H
                        have H := H1
                        clear H1
                        have HC60 := Aside0.mk H
                        clear H
                        go_upto_region 9 with (fail)
                        go_cut [86] (fun v86 wc => ∃ (kq : Nat) (x86_59 : Bool), v86 = .bool x86_59 ∧ Aside0 (horariumlaw47_LogTurned.j3 kq a1 a2 t442 x86_59 = some r) ∧ Aside0 (kq ≤ kj37) ∧ Aside0 (Kd.R (Kd.int .u8) 5 wc w.heap.size (fun k_ => some k_ ≠ ((.slice Ao48 t454.length co48) : Value).ownBlock) (.slice Ao42 t442.length co42) t442) ∧ Aside0 (Kd.R (Kd.int .u8) 5 wc w.heap.size (fun k_ => some k_ ≠ ((.slice Ao42 t442.length co42) : Value).ownBlock) (.slice Ao48 t454.length co48) t454) ∧ Aside0 (wc.heap[gb430]? = some (.cells #[.int .i64 a0_0, (.slice A0_1 l0_1.length c0_1)] 68 (0, 0))) ∧ Aside0 (wc.heap[gb459]? = some (.cells #[.int .i64 t453, (.slice Ao48 t454.length co48)] 68 (0, 0))) ∧ Aside0 (Below w.heap.size w wc))
                        case first =>
                          have H := HC60.out
                          clear HC60
                          by_cases c61 : a1 = 1
                          · rw [if_pos c61] at H
                            have c61b0 : (a1 == 1) = true := beq_iff_eq.mpr c61
                            have c61b1 : (a1 != 1) = false := bne_eq_false_iff_eq.mpr c61
                            clear c61
                            (first | rw [c61b0] | (simp only [i64_w, i32_w]; rw [c61b0]) | skip)
                            have H' := Aside0.mk H
                            clear H
                            go_wp2
                            go_meet
                            case rel => exact ⟨_, (false), (by first | rfl | (simp; done) | (simp [*]; done)), H', ⟨by have := HJ4.out; have := HJ26.out; have := HJ37.out; first | omega | exact Nat.le_refl _⟩, ⟨by (with_reducible repeat (first | apply Kd.R_alloc | apply Kd.R_drewN | apply Kd.R_drew)); exact HO_7.out⟩, ⟨by (with_reducible repeat (first | apply Kd.R_alloc | apply Kd.R_drewN | apply Kd.R_drew)); exact HO_460001.out⟩, ⟨by (with_reducible repeat (first | refine blk_drewN ?_ _ | refine blk_drew ?_ | refine blk_alloc ?_ _)); exact BK430.out⟩, ⟨by (with_reducible repeat (first | refine blk_drewN ?_ _ | refine blk_drew ?_ | refine blk_alloc ?_ _)); exact BK459.out⟩, ⟨by repeat (first | (with_reducible first | exact HB.out | apply below_alloc | apply pw_below_drewN | apply below_drew1 | refine below_set ?_ GE430.out | refine below_set ?_ GE459.out) | exact HB.out)⟩⟩
                          · rw [if_neg c61] at H
                            have c61b0 : (a1 == 1) = false := beq_eq_false_iff_ne.mpr c61
                            have c61b1 : (a1 != 1) = true := bne_iff_ne.mpr c61
                            (first | rw [c61b0] | (simp only [i64_w, i32_w]; rw [c61b0]) | skip)
                            have H' := Aside0.mk H
                            clear H
                            have hnb62 := NB430_459.out
                            have hnc62 := NB459_430.out
                            have hcz63_0 : wc.cell? ⟨gb430, 0, none⟩ = some (.int .i64 a0_0) := (blk_cell BK430.out 0).trans rfl
                            have hcz63_1 : wc.cell? ⟨gb430, 1, none⟩ = some (.slice A0_1 l0_1.length c0_1) := (blk_cell BK430.out 1).trans rfl
                            have hfz63_0 := blk_frozen BK430.out 0
                            have hfz63_1 := blk_frozen BK430.out 1
                            go_wp2
                            go_meet
                            case rel => exact ⟨_, (decide (a1 < (wrap64 ((wrap64 ((t442.length : Int) - 4)) - (l0_1.length : Int))))), (by first | rfl | (simp; done) | (simp [*]; done)), H', ⟨by have := HJ4.out; have := HJ26.out; have := HJ37.out; first | omega | exact Nat.le_refl _⟩, ⟨by (with_reducible repeat (first | apply Kd.R_alloc | apply Kd.R_drewN | apply Kd.R_drew)); exact HO_7.out⟩, ⟨by (with_reducible repeat (first | apply Kd.R_alloc | apply Kd.R_drewN | apply Kd.R_drew)); exact HO_460001.out⟩, ⟨by (with_reducible repeat (first | refine blk_drewN ?_ _ | refine blk_drew ?_ | refine blk_alloc ?_ _)); exact BK430.out⟩, ⟨by (with_reducible repeat (first | refine blk_drewN ?_ _ | refine blk_drew ?_ | refine blk_alloc ?_ _)); exact BK459.out⟩, ⟨by repeat (first | (with_reducible first | exact HB.out | apply below_alloc | apply pw_below_drewN | apply below_drew1 | refine below_set ?_ GE430.out | refine below_set ?_ GE459.out) | exact HB.out)⟩⟩
                        case rest =>
                          clear HC60
                          try clear c1
                          try clear c2
                          try clear p2
                          try clear c3
                          try clear c4
                          try clear c5
                          try clear c6
                          try clear p6
                          try clear c10
                          try clear c12
                          try clear c23
                          try clear c25
                          try clear c30
                          try clear c30b0
                          try clear c30b1
                          try clear c31
                          try clear c31b0
                          try clear c33
                          try clear c36
                          try clear c46
                          try clear c49
                          try clear c49b0
                          try clear c49b1
                          try clear c50
                          try clear c50b0
                          try clear c50b1
                          try clear c51
                          try clear c51b0
                          try clear c51b1
                          try clear c53
                          try clear c56
                          try clear c59
                          try clear c61
                          try clear c61b0
                          try clear c61b1
                          try clear c62
                          try clear hcz28_0
                          try clear hcz28_1
                          try clear hcz47_0
                          try clear hcz47_1
                          try clear hcz54_0
                          try clear hcz54_1
                          try clear hcz55_0
                          try clear hcz55_1
                          try clear hcz57_0
                          try clear hcz57_1
                          try clear hcz58_0
                          try clear hcz58_1
                          try clear hcz63_0
                          try clear hcz63_1
                          try clear hcz7_0
                          try clear hcz7_1
                          try clear hfz28_0
                          try clear hfz28_1
                          try clear hfz47_0
                          try clear hfz47_1
                          try clear hfz54_0
                          try clear hfz54_1
                          try clear hfz55_0
                          try clear hfz55_1
                          try clear hfz57_0
                          try clear hfz57_1
                          try clear hfz58_0
                          try clear hfz58_1
                          try clear hfz63_0
                          try clear hfz63_1
                          try clear hfz7_0
                          try clear hfz7_1
                          try clear p2
                          try clear p6
                          obtain ⟨kq, x86_59, rfl, HA, HJ59, HO_7, HO_460001, BK430, BK459, HB⟩ := hcut
                          cases kq with
                          | zero => exact absurd HA.out (by simp [horariumlaw47_LogTurned.j3])
                          | succ kj59 =>
                            have H := HA.out
                            clear HA
                            simp only [horariumlaw47_LogTurned.j3] at H
                            by_cases c64 : x86_59 = true
                            · subst c64
                              have H1 : ((horariumlaw47_heads.f kj59).bind fun t461 => (some t461)) = some r := by rw [if_pos rfl] at H; exact H
                              clear H
                              have H := H1
                              clear H1
                              replace H := Option.bind_eq_some_iff.mp H
                              obtain ⟨t461, A650, H⟩ := H
                              replace H : (some t461) = some r := H
                              have A65 := Aside0.mk A650
                              clear A650
                              obtain rfl := Option.some.inj H
                              go_wp2_with (first | ((with_reducible refine gate_callee (f := 101) rfl ?_); refine goesL_ (some 87) rfl rfl Try.func101 (by kernel_rfl) rfl #[] rfl (by (try simp only [List.map_toArray, List.map_cons, List.map_nil]); first | done | rfl | (simp only [List.length_drop, List.length_take]; rfl)) ?_; (with_reducible refine (horariumlaw47_heads.calls kj59  t461 _ A65.out).mono ?_); rintro e w66 ⟨rfl, hb⟩; refine ⟨_, rfl, ?_⟩; have n0_ := Aside0.mk (Kd.R_below (by (with_reducible repeat (first | apply Kd.R_alloc | apply Kd.R_drewN | apply Kd.R_drew)); exact HO_7.out) hb); have n1_ := Aside0.mk (Kd.R_below (by (with_reducible repeat (first | apply Kd.R_alloc | apply Kd.R_drewN | apply Kd.R_drew)); exact HO_460001.out) hb); have n2_ := Aside0.mk (blk_below (g := gb430) (o := .cells #[.int .i64 a0_0, .slice A0_1 l0_1.length c0_1] 68 (0, 0)) (by (with_reducible repeat (first | refine blk_drewN ?_ _ | refine blk_drew ?_ | refine blk_alloc ?_ _)); exact BK430.out) hb); have n3_ := Aside0.mk (blk_below (g := gb459) (o := .cells #[.int .i64 t453, .slice Ao48 t454.length co48] 68 (0, 0)) (by (with_reducible repeat (first | refine blk_drewN ?_ _ | refine blk_drew ?_ | refine blk_alloc ?_ _)); exact BK459.out) hb); have n4_ := Aside0.mk (below_step (by repeat (first | (with_reducible first | exact HB.out | apply below_alloc | apply pw_below_drewN | apply below_drew1 | refine below_set ?_ GE430.out | refine below_set ?_ GE459.out) | exact HB.out)) hb); clear HO_7; clear HO_460001; clear BK430; clear BK459; clear HB; have HO_7 := n0_; have HO_460001 := n1_; have BK430 := n2_; have BK459 := n3_; have HB := n4_; clear n0_ n1_ n2_ n3_ n4_; (try clear hb); (try clear hb2); (try clear hk); (try clear hi)))
                              go_ret
                              exact ⟨by first | rfl | (simp [errW_none, errW_some] <;> rfl) | (simp [*, errW_none, errW_some] <;> rfl), by repeat (first | (with_reducible first | exact HB.out | apply below_alloc | apply pw_below_drewN | apply below_drew1 | refine below_set ?_ GE430.out | refine below_set ?_ GE459.out) | exact HB.out)⟩
                            · replace c64 := Bool.eq_false_iff.mpr c64
                              subst c64
                              have H1 : (if 0 ≤ a1 then (if a1 < (t442.length : Int) then ((some (t442.set (a1 : Int).toNat (Go.bits .xor .u8 (rd t442 a1) a2) : List Int)).bind fun y463 => ((log_Next.f kj59 y463 0).bind fun bt464 => (if bt464.2.2.2 = 27 then (if bt464.1 = 0 then (if (bt464.2.1.length : Int) = 0 then (if bt464.2.2.1 = 0 then ((horariumlaw47_heads.f kj59).bind fun t471 => (some t471)) else (some false)) else (some false)) else (some false)) else (if bt464.2.2.2 = 3 then (if a1 = 1 then (if 1 < (t442.length : Int) then (if (rd y463 1) = 0 then (if bt464.1 = 0 then (if (bt464.2.1.length : Int) = 0 then (if bt464.2.2.1 = 0 then ((horariumlaw47_heads.f kj59).bind fun t473 => (some t473)) else (some false)) else (some false)) else (some false)) else (some false)) else (none)) else (some false)) else (some false))))) else (none)) else (none)) = some r := by rw [if_neg (show ¬ (false = true) by decide)] at H; exact H
                              clear H
                              have H := H1
                              clear H1
                              by_cases c67 : 0 ≤ a1
                              · rw [if_pos c67] at H
                                have c67b0 : decide (0 ≤ a1) = true := decide_eq_true c67
                                clear c67
                                by_cases c68 : a1 < (t442.length : Int)
                                · rw [if_pos c68] at H
                                  have c68b0 : decide (a1 < (t442.length : Int)) = true := decide_eq_true c68
                                  clear c68
                                  obtain ⟨y463, hy463⟩ : ∃ y_ : List Int, y_ = (t442.set (a1 : Int).toNat (Go.bits .xor .u8 (rd t442 a1) a2)) := ⟨_, rfl⟩
                                  replace H : ((log_Next.f kj59 y463 0).bind fun bt464 => (if bt464.2.2.2 = 27 then (if bt464.1 = 0 then (if (bt464.2.1.length : Int) = 0 then (if bt464.2.2.1 = 0 then ((horariumlaw47_heads.f kj59).bind fun t471 => (some t471)) else (some false)) else (some false)) else (some false)) else (if bt464.2.2.2 = 3 then (if a1 = 1 then (if 1 < (t442.length : Int) then (if (rd y463 1) = 0 then (if bt464.1 = 0 then (if (bt464.2.1.length : Int) = 0 then (if bt464.2.2.1 = 0 then ((horariumlaw47_heads.f kj59).bind fun t473 => (some t473)) else (some false)) else (some false)) else (some false)) else (some false)) else (none)) else (some false)) else (some false)))) = some r := by first | (rw [hy463]; with_reducible exact H) | (have H2_ := (Option.bind_some _ _).symm.trans H; rw [hy463]; with_reducible exact H2_) | (have H2_ := (Option.bind_some _ _).symm.trans H; with_reducible exact H2_) | with_reducible exact H | (rw [hy463]; exact H) | exact H
                                  have Ny463 := Aside0.mk hy463
                                  clear hy463
                                  replace H := Option.bind_eq_some_iff.mp H
                                  obtain ⟨⟨t464, t465, t468, t469⟩, A700, H⟩ := H
                                  replace H : (if t469 = 27 then (if t464 = 0 then (if (t465.length : Int) = 0 then (if t468 = 0 then ((horariumlaw47_heads.f kj59).bind fun t471 => (some t471)) else (some false)) else (some false)) else (some false)) else (if t469 = 3 then (if a1 = 1 then (if 1 < (t442.length : Int) then (if (rd y463 1) = 0 then (if t464 = 0 then (if (t465.length : Int) = 0 then (if t468 = 0 then ((horariumlaw47_heads.f kj59).bind fun t473 => (some t473)) else (some false)) else (some false)) else (some false)) else (some false)) else (none)) else (some false)) else (some false))) = some r := H
                                  have A70 := Aside0.mk A700
                                  clear A700
                                  by_cases c71 : t469 = 27
                                  · rw [if_pos c71] at H
                                    have c71b0 : (t469 == 27) = true := beq_iff_eq.mpr c71
                                    have c71b1 : (t469 != 27) = false := bne_eq_false_iff_eq.mpr c71
                                    clear c71
                                    by_cases c72 : t464 = 0
                                    · rw [if_pos c72] at H
                                      have c72b0 : (t464 == 0) = true := beq_iff_eq.mpr c72
                                      have c72b1 : (t464 != 0) = false := bne_eq_false_iff_eq.mpr c72
                                      clear c72
                                      by_cases c73 : (t465.length : Int) = 0
                                      · rw [if_pos c73] at H
                                        have c73b0 : ((t465.length : Int) == 0) = true := beq_iff_eq.mpr c73
                                        have c73b1 : ((t465.length : Int) != 0) = false := bne_eq_false_iff_eq.mpr c73
                                        clear c73
                                        by_cases c74 : t468 = 0
                                        · rw [if_pos c74] at H
                                          have c74b0 : (t468 == 0) = true := beq_iff_eq.mpr c74
                                          have c74b1 : (t468 != 0) = false := bne_eq_false_iff_eq.mpr c74
                                          clear c74
                                          replace H := Option.bind_eq_some_iff.mp H
                                          obtain ⟨t471, A750, H⟩ := H
                                          replace H : (some t471) = some r := H
                                          have A75 := Aside0.mk A750
                                          clear A750
                                          obtain rfl := Option.some.inj H
                                          have p462 : 0 ≤ (a1 : Int) := of_decide_eq_true (by first | (with_reducible assumption) | assumption)
                                          have q462 : a1 < (t442.length : Int) := of_decide_eq_true (by first | (with_reducible assumption) | assumption)
                                          obtain ⟨ad462, e462, hx462_0⟩ := Kd.at_int (Kd.R_reads' HO_7.out).2.2 a1 p462 q462
                                          cases e462
                                          replace p462 := eq_true p462
                                          replace q462 := eq_true q462
                                          have p69 : 0 ≤ (a1 : Int) := of_decide_eq_true (by first | (with_reducible assumption) | assumption)
                                          have q69 : (a1 : Int) < ((t442.length : Int) : Int) := of_decide_eq_true (by first | (with_reducible assumption) | assumption)
                                          obtain ⟨go69, co69, eo69, gb69, gl69, cl69, HG69⟩ := Kd.R_form HO_7.out (by omega)
                                          (first | cases eo69 | (injection eo69 with ea_ en_ ec_; (first | subst ea_ | (injection ea_ with ea_; subst ea_)); subst ec_; clear en_))
                                          have GB69 := Aside0.mk gb69
                                          have GG69 := Aside0.mk HG69
                                          clear gb69 gl69 HG69
                                          (first | simp only [add_plain] at hx462_0 | skip)
                                          obtain ⟨hx69_0, hf69_0⟩ := Kd.R_celln 0 HO_7.out (a1 : Int) p69 q69
                                          replace p69 := eq_true p69
                                          replace q69 := eq_true q69
                                          have HP76 := Kd.R_putg HO_7.out (a1 : Int) (Go.bits .xor .u8 (rd t442 a1) a2)
                                          go_wp2_with (first | ((with_reducible refine gate_store (t := 5) (p := 96) rfl ?_); refine store_event (t := 5) (p := 96) (v := ?vo_w77) (w1 := (wc.setCell ⟨go69, (a1 : Int).toNat, none⟩ (.int .u8 (Go.bits .xor .u8 (rd t442 a1) a2)))) ?hg ?ho ?hn ?hr ?_; (case ho => rfl); (case hg => rfl); (case hn => rfl); (case hr => first | (go_simp; done) | (go_simp; rfl)); intro w77 hw; have hg : wc.grownBy w77 (some go69) := (by rw [hw]; exact HP76.2); have hp_ : Kd.R (Kd.int .u8) 5 w77 w.heap.size (fun k_ => some k_ ≠ (.slice Ao48 t454.length co48 : Value).ownBlock) (.slice (some ⟨go69, 0, none⟩) t442.length co42) y463 := (by rw [hw, Ny463.out]; exact HP76.1); clear HP76; have n0_ := Aside0.mk (hp_); have n1_ := Aside0.mk (Kd.R_after (v := (.slice (some ⟨go69, 0, none⟩) t442.length co42)) (v1 := (.slice (some ⟨go69, 0, none⟩) t442.length co42)) (ok := (fun _ => True)) (by (with_reducible repeat (first | apply Kd.R_alloc | apply Kd.R_drewN | apply Kd.R_drew)); exact Kd.R_mono HO_460001.out (fun _ hk => ⟨trivial, hk⟩)) hg (.inl rfl)); have n2_ := Aside0.mk (blk_grown (g := gb430) (o := .cells #[.int .i64 a0_0, .slice A0_1 l0_1.length c0_1] 68 (0, 0)) (by (with_reducible repeat (first | refine blk_drewN ?_ _ | refine blk_drew ?_ | refine blk_alloc ?_ _)); exact BK430.out) hg (Kd.R_ne HO_7.out BK430.out (by decide))); have n3_ := Aside0.mk (blk_grown (g := gb459) (o := .cells #[.int .i64 t453, .slice Ao48 t454.length co48] 68 (0, 0)) (by (with_reducible repeat (first | refine blk_drewN ?_ _ | refine blk_drew ?_ | refine blk_alloc ?_ _)); exact BK459.out) hg (Kd.R_ne HO_7.out BK459.out (by decide))); have n4_ := Aside0.mk ((by rw [hw]; exact below_set (HB.out) GB69.out : Below w.heap.size w w77)); clear HO_7; clear HO_460001; clear BK430; clear BK459; clear HB; have HO_7 := n0_; have HO_460001 := n1_; have BK430 := n2_; have BK459 := n3_; have HB := n4_; clear n0_ n1_ n2_ n3_ n4_; clear hg hw hp_) | ((with_reducible refine gate_callee (f := 105) rfl ?_); refine goesL_ (some 99) rfl rfl Try.func105 (by kernel_rfl) rfl #[.slice (some ⟨go69, 0, none⟩) y463.length co42, .int .i64 0] rfl (by (try simp only [List.map_toArray, List.map_cons, List.map_nil]); first | done | (rw [show y463.length = t442.length from (Kd.R_reads' HO_7.out).1.symm] <;> rfl) | rfl | (simp only [List.length_drop, List.length_take]; rfl)) ?_; (with_reducible refine (log_Next.calls kj59 _ _ y463 0 t464 t465 t468 t469 _ ?side1 ?side2 A70.out).mono ?_); (case side1 => repeat (first | exact (Kd.R_reads' HO_7.out).2.2 | (with_reducible refine Kd.C_alloc ?_ _) | (with_reducible refine Kd.C_drewN ?_ _) | (with_reducible refine Kd.C_drew ?_))); (case side2 => rw [show y463.length = t442.length from (Kd.R_reads' HO_7.out).1.symm]; exact (Kd.R_reads' HO_7.out).2.1); rintro e w78 ⟨v466, rfl, ho0, hb⟩; refine ⟨_, rfl, ?_⟩; have n0_ := Aside0.mk (Kd.R_elder' (by (with_reducible repeat (first | apply Kd.R_alloc | apply Kd.R_drewN | apply Kd.R_drew)); exact HO_7.out) (Kd.R_base ho0) hb); have n1_ := Aside0.mk (Kd.R_elder' (by (with_reducible repeat (first | apply Kd.R_alloc | apply Kd.R_drewN | apply Kd.R_drew)); exact HO_460001.out) (Kd.R_base ho0) hb); have n2_ := Aside0.mk (Kd.R_lower (Kd.R_new' (Kd.R_new' ho0 (Kd.R_lt (by (with_reducible repeat (first | apply Kd.R_alloc | apply Kd.R_drewN | apply Kd.R_drew)); exact HO_7.out))) (Kd.R_lt (by (with_reducible repeat (first | apply Kd.R_alloc | apply Kd.R_drewN | apply Kd.R_drew)); exact HO_460001.out))) (below_size (by repeat (first | (with_reducible first | exact HB.out | apply below_alloc | apply pw_below_drewN | apply below_drew1 | refine below_set ?_ GE430.out | refine below_set ?_ GE459.out) | exact HB.out)))); have n3_ := Aside0.mk (blk_below (g := gb430) (o := .cells #[.int .i64 a0_0, .slice A0_1 l0_1.length c0_1] 68 (0, 0)) (by (with_reducible repeat (first | refine blk_drewN ?_ _ | refine blk_drew ?_ | refine blk_alloc ?_ _)); exact BK430.out) hb); have n4_ := Aside0.mk (blk_below (g := gb459) (o := .cells #[.int .i64 t453, .slice Ao48 t454.length co48] 68 (0, 0)) (by (with_reducible repeat (first | refine blk_drewN ?_ _ | refine blk_drew ?_ | refine blk_alloc ?_ _)); exact BK459.out) hb); have n5_ := Aside0.mk (below_step (by repeat (first | (with_reducible first | exact HB.out | apply below_alloc | apply pw_below_drewN | apply below_drew1 | refine below_set ?_ GE430.out | refine below_set ?_ GE459.out) | exact HB.out)) hb); clear HO_7; clear HO_460001; clear BK430; clear BK459; clear HB; have HO_7 := n0_; have HO_460001 := n1_; have HO467 := n2_; have BK430 := n3_; have BK459 := n4_; have HB := n5_; clear n0_ n1_ n2_ n3_ n4_ n5_; (try clear hb); (try clear hb2); (try clear hk); (try clear hi); (try clear ho0)) | ((with_reducible refine gate_dst (N := 12) rfl ?_); (try (refine gate_guard (by rfl) ?_; dsimp only)); refine box_event ?hg (N := 12) ?hd (cs := #[.int .i64 0, .slice none 0 0]) (t := 68) ?hr ?_; (case hd => rfl); (case hg => rfl); (case hr => first | (go_simp; done) | (go_simp; rfl)); intro gb470 hg w79 hbox hb; have n0_ := Aside0.mk (Kd.R_below (by (with_reducible repeat (first | apply Kd.R_alloc | apply Kd.R_drewN | apply Kd.R_drew)); exact HO_7.out) hb); have n1_ := Aside0.mk (Kd.R_below (by (with_reducible repeat (first | apply Kd.R_alloc | apply Kd.R_drewN | apply Kd.R_drew)); exact HO_460001.out) hb); have n2_ := Aside0.mk (Kd.R_below (by (with_reducible repeat (first | apply Kd.R_alloc | apply Kd.R_drewN | apply Kd.R_drew)); exact HO467.out) hb); have n3_ := Aside0.mk (blk_below (g := gb430) (o := .cells #[.int .i64 a0_0, .slice A0_1 l0_1.length c0_1] 68 (0, 0)) (by (with_reducible repeat (first | refine blk_drewN ?_ _ | refine blk_drew ?_ | refine blk_alloc ?_ _)); exact BK430.out) hb); have n4_ := Aside0.mk (blk_below (g := gb459) (o := .cells #[.int .i64 t453, .slice Ao48 t454.length co48] 68 (0, 0)) (by (with_reducible repeat (first | refine blk_drewN ?_ _ | refine blk_drew ?_ | refine blk_alloc ?_ _)); exact BK459.out) hb); have n5_ := Aside0.mk (below_step (by repeat (first | (with_reducible first | exact HB.out | apply below_alloc | apply pw_below_drewN | apply below_drew1 | refine below_set ?_ GE430.out | refine below_set ?_ GE459.out) | exact HB.out)) hb); have n6_ := Aside0.mk (hbox); have n7_ := Aside0.mk ((by rw [hg]; exact (below_size (by repeat (first | (with_reducible first | exact HB.out | apply below_alloc | apply pw_below_drewN | apply below_drew1 | refine below_set ?_ GE430.out | refine below_set ?_ GE459.out) | exact HB.out))) : w.heap.size ≤ gb470)); have n8_ := Aside0.mk ((by rw [hg]; exact (below_size (by repeat (first | (with_reducible first | exact HB.out | apply below_alloc | apply pw_below_drewN | apply below_drew1 | refine below_set ?_ GE430.out | refine below_set ?_ GE459.out) | exact HB.out))) : w.heap.size ≤ gb470)); have n9_ := Aside0.mk ((by rw [hg]; exact Nat.ne_of_lt (blk_lt (g := gb430) (o := .cells #[.int .i64 a0_0, .slice A0_1 l0_1.length c0_1] 68 (0, 0)) (by (with_reducible repeat (first | refine blk_drewN ?_ _ | refine blk_drew ?_ | refine blk_alloc ?_ _)); exact BK430.out)) : gb430 ≠ gb470)); have n10_ := Aside0.mk ((by rw [hg]; exact Nat.ne_of_gt (blk_lt (g := gb430) (o := .cells #[.int .i64 a0_0, .slice A0_1 l0_1.length c0_1] 68 (0, 0)) (by (with_reducible repeat (first | refine blk_drewN ?_ _ | refine blk_drew ?_ | refine blk_alloc ?_ _)); exact BK430.out)) : gb470 ≠ gb430)); have n11_ := Aside0.mk ((by rw [hg]; exact Nat.ne_of_lt (blk_lt (g := gb459) (o := .cells #[.int .i64 t453, .slice Ao48 t454.length co48] 68 (0, 0)) (by (with_reducible repeat (first | refine blk_drewN ?_ _ | refine blk_drew ?_ | refine blk_alloc ?_ _)); exact BK459.out)) : gb459 ≠ gb470)); have n12_ := Aside0.mk ((by rw [hg]; exact Nat.ne_of_gt (blk_lt (g := gb459) (o := .cells #[.int .i64 t453, .slice Ao48 t454.length co48] 68 (0, 0)) (by (with_reducible repeat (first | refine blk_drewN ?_ _ | refine blk_drew ?_ | refine blk_alloc ?_ _)); exact BK459.out)) : gb470 ≠ gb459)); clear HO_7; clear HO_460001; clear HO467; clear BK430; clear BK459; clear HB; have HO_7 := n0_; have HO_460001 := n1_; have HO467 := n2_; have BK430 := n3_; have BK459 := n4_; have HB := n5_; have BK470 := n6_; have GW470 := n7_; have GE470 := n8_; have NB430_470 := n9_; have NB470_430 := n10_; have NB459_470 := n11_; have NB470_459 := n12_; clear n0_ n1_ n2_ n3_ n4_ n5_ n6_ n7_ n8_ n9_ n10_ n11_ n12_; clear hb hbox hg; have hnb80 := NB470_430.out; have hnc80 := NB430_470.out; have hnb81 := NB470_459.out; have hnc81 := NB459_470.out; have hcz82_0 : w79.cell? ⟨gb470, 0, none⟩ = some (.int .i64 0) := (blk_cell BK470.out 0).trans rfl; have hcz82_1 : w79.cell? ⟨gb470, 1, none⟩ = some (.slice none 0 0) := (blk_cell BK470.out 1).trans rfl; have hfz82_0 := blk_frozen BK470.out 0; have hfz82_1 := blk_frozen BK470.out 1; obtain ⟨Ao83, co83, eo83⟩ := Kd.R_slice HO467.out; subst eo83) | (go_at_call 101; (with_reducible refine (horariumlaw47_heads.calls kj59  t471 _ A75.out).mono ?_); rintro e w84 ⟨rfl, hb⟩; have n0_ := Aside0.mk (Kd.R_below (by (with_reducible repeat (first | apply Kd.R_alloc | apply Kd.R_drewN | apply Kd.R_drew)); exact (Kd.R_mono (Kd.R_far (p := ⟨gb470, 1, none⟩) (Kd.R_far (p := ⟨gb470, 0, none⟩) (Kd.R_types HO_7.out BK470.out (by decide)) (fun _ hk => hk.2) (.int .i64 t464)) (fun _ hk => hk.2) (.slice Ao83 t465.length co83)) (fun _ h_ => h_.1))) hb); have n1_ := Aside0.mk (Kd.R_below (by (with_reducible repeat (first | apply Kd.R_alloc | apply Kd.R_drewN | apply Kd.R_drew)); exact (Kd.R_mono (Kd.R_far (p := ⟨gb470, 1, none⟩) (Kd.R_far (p := ⟨gb470, 0, none⟩) (Kd.R_types HO_460001.out BK470.out (by decide)) (fun _ hk => hk.2) (.int .i64 t464)) (fun _ hk => hk.2) (.slice Ao83 t465.length co83)) (fun _ h_ => h_.1))) hb); have n2_ := Aside0.mk (Kd.R_below (by (with_reducible repeat (first | apply Kd.R_alloc | apply Kd.R_drewN | apply Kd.R_drew)); exact (Kd.R_mono (Kd.R_far (p := ⟨gb470, 1, none⟩) (Kd.R_far (p := ⟨gb470, 0, none⟩) (Kd.R_types HO467.out BK470.out (by decide)) (fun _ hk => hk.2) (.int .i64 t464)) (fun _ hk => hk.2) (.slice Ao83 t465.length co83)) (fun _ h_ => h_.1))) hb); have n3_ := Aside0.mk (blk_below (g := gb430) (o := .cells #[.int .i64 a0_0, .slice A0_1 l0_1.length c0_1] 68 (0, 0)) (by (with_reducible repeat (first | refine blk_drewN ?_ _ | refine blk_drew ?_ | refine blk_alloc ?_ _)); refine blk_far ?_ NB430_470.out _; (with_reducible repeat (first | refine blk_drewN ?_ _ | refine blk_drew ?_ | refine blk_alloc ?_ _)); refine blk_far ?_ NB430_470.out _; (with_reducible repeat (first | refine blk_drewN ?_ _ | refine blk_drew ?_ | refine blk_alloc ?_ _)); exact BK430.out) hb); have n4_ := Aside0.mk (blk_below (g := gb459) (o := .cells #[.int .i64 t453, .slice Ao48 t454.length co48] 68 (0, 0)) (by (with_reducible repeat (first | refine blk_drewN ?_ _ | refine blk_drew ?_ | refine blk_alloc ?_ _)); refine blk_far ?_ NB459_470.out _; (with_reducible repeat (first | refine blk_drewN ?_ _ | refine blk_drew ?_ | refine blk_alloc ?_ _)); refine blk_far ?_ NB459_470.out _; (with_reducible repeat (first | refine blk_drewN ?_ _ | refine blk_drew ?_ | refine blk_alloc ?_ _)); exact BK459.out) hb); have n5_ := Aside0.mk (blk_below (g := gb470) (o := .cells #[.int .i64 t464, .slice Ao83 t465.length co83] 68 (0, 0)) (by (with_reducible repeat (first | refine blk_drewN ?_ _ | refine blk_drew ?_ | refine blk_alloc ?_ _)); refine blk_put (cs := #[.int .i64 t464, .slice none 0 0]) ?_ 1 _ rfl; (with_reducible repeat (first | refine blk_drewN ?_ _ | refine blk_drew ?_ | refine blk_alloc ?_ _)); refine blk_put (cs := #[.int .i64 0, .slice none 0 0]) ?_ 0 _ rfl; (with_reducible repeat (first | refine blk_drewN ?_ _ | refine blk_drew ?_ | refine blk_alloc ?_ _)); exact BK470.out) hb); have n6_ := Aside0.mk (below_step (by repeat (first | (with_reducible first | exact HB.out | apply below_alloc | apply pw_below_drewN | apply below_drew1 | refine below_set ?_ GE430.out | refine below_set ?_ GE459.out | refine below_set ?_ GE470.out) | exact HB.out)) hb); clear HO_7; clear HO_460001; clear HO467; clear BK430; clear BK459; clear BK470; clear HB; have HO_7 := n0_; have HO_460001 := n1_; have HO467 := n2_; have BK430 := n3_; have BK459 := n4_; have BK470 := n5_; have HB := n6_; clear n0_ n1_ n2_ n3_ n4_ n5_ n6_; (try clear hb); (try clear hb2); (try clear hk); (try clear hi)))
                                          go_ret
                                          exact ⟨by first | rfl | (simp [errW_none, errW_some] <;> rfl) | (simp [*, errW_none, errW_some] <;> rfl), by repeat (first | (with_reducible first | exact HB.out | apply below_alloc | apply pw_below_drewN | apply below_drew1 | refine below_set ?_ GE430.out | refine below_set ?_ GE459.out | refine below_set ?_ GE470.out) | exact HB.out)⟩
                                        · rw [if_neg c74] at H
                                          exact absurd ((Option.some.inj H).trans hr_) Bool.false_ne_true
                                      · rw [if_neg c73] at H
                                        exact absurd ((Option.some.inj H).trans hr_) Bool.false_ne_true
                                    · rw [if_neg c72] at H
                                      exact absurd ((Option.some.inj H).trans hr_) Bool.false_ne_true
                                  · rw [if_neg c71] at H
                                    have c71b0 : (t469 == 27) = false := beq_eq_false_iff_ne.mpr c71
                                    have c71b1 : (t469 != 27) = true := bne_iff_ne.mpr c71
                                    by_cases c109 : t469 = 3
                                    · rw [if_pos c109] at H
                                      have c109b0 : (t469 == 3) = true := beq_iff_eq.mpr c109
                                      have c109b1 : (t469 != 3) = false := bne_eq_false_iff_eq.mpr c109
                                      clear c109
                                      by_cases c110 : a1 = 1
                                      · rw [if_pos c110] at H
                                        have c110b0 : (a1 == 1) = true := beq_iff_eq.mpr c110
                                        have c110b1 : (a1 != 1) = false := bne_eq_false_iff_eq.mpr c110
                                        clear c110
                                        by_cases c111 : 1 < (t442.length : Int)
                                        · rw [if_pos c111] at H
                                          have c111b0 : decide (1 < (t442.length : Int)) = true := decide_eq_true c111
                                          have c111b1 : decide (1 < t442.length) = true := decide_eq_true (by omega)
                                          clear c111
                                          by_cases c112 : (rd y463 1) = 0
                                          · rw [if_pos c112] at H
                                            have c112b0 : ((rd y463 1) == 0) = true := beq_iff_eq.mpr c112
                                            have c112b1 : ((rd y463 1) != 0) = false := bne_eq_false_iff_eq.mpr c112
                                            clear c112
                                            by_cases c113 : t464 = 0
                                            · rw [if_pos c113] at H
                                              have c113b0 : (t464 == 0) = true := beq_iff_eq.mpr c113
                                              have c113b1 : (t464 != 0) = false := bne_eq_false_iff_eq.mpr c113
                                              clear c113
                                              by_cases c114 : (t465.length : Int) = 0
                                              · rw [if_pos c114] at H
                                                have c114b0 : ((t465.length : Int) == 0) = true := beq_iff_eq.mpr c114
                                                have c114b1 : ((t465.length : Int) != 0) = false := bne_eq_false_iff_eq.mpr c114
                                                clear c114
                                                by_cases c115 : t468 = 0
                                                · rw [if_pos c115] at H
                                                  have c115b0 : (t468 == 0) = true := beq_iff_eq.mpr c115
                                                  have c115b1 : (t468 != 0) = false := bne_eq_false_iff_eq.mpr c115
                                                  clear c115
                                                  replace H := Option.bind_eq_some_iff.mp H
                                                  obtain ⟨t473, A1160, H⟩ := H
                                                  replace H : (some t473) = some r := H
                                                  have A116 := Aside0.mk A1160
                                                  clear A1160
                                                  obtain rfl := Option.some.inj H
                                                  have p462 : 0 ≤ (a1 : Int) := of_decide_eq_true (by first | (with_reducible assumption) | assumption)
                                                  have q462 : a1 < (t442.length : Int) := of_decide_eq_true (by first | (with_reducible assumption) | assumption)
                                                  obtain ⟨ad462, e462, hx462_0⟩ := Kd.at_int (Kd.R_reads' HO_7.out).2.2 a1 p462 q462
                                                  cases e462
                                                  replace p462 := eq_true p462
                                                  replace q462 := eq_true q462
                                                  have p69 : 0 ≤ (a1 : Int) := of_decide_eq_true (by first | (with_reducible assumption) | assumption)
                                                  have q69 : (a1 : Int) < ((t442.length : Int) : Int) := of_decide_eq_true (by first | (with_reducible assumption) | assumption)
                                                  obtain ⟨go69, co69, eo69, gb69, gl69, cl69, HG69⟩ := Kd.R_form HO_7.out (by omega)
                                                  (first | cases eo69 | (injection eo69 with ea_ en_ ec_; (first | subst ea_ | (injection ea_ with ea_; subst ea_)); subst ec_; clear en_))
                                                  have GB69 := Aside0.mk gb69
                                                  have GG69 := Aside0.mk HG69
                                                  clear gb69 gl69 HG69
                                                  (first | simp only [add_plain] at hx462_0 | skip)
                                                  obtain ⟨hx69_0, hf69_0⟩ := Kd.R_celln 0 HO_7.out (a1 : Int) p69 q69
                                                  replace p69 := eq_true p69
                                                  replace q69 := eq_true q69
                                                  have HP117 := Kd.R_putg HO_7.out (a1 : Int) (Go.bits .xor .u8 (rd t442 a1) a2)
                                                  go_wp2_with (first | ((with_reducible refine gate_store (t := 5) (p := 96) rfl ?_); refine store_event (t := 5) (p := 96) (v := ?vo_w118) (w1 := (wc.setCell ⟨go69, (a1 : Int).toNat, none⟩ (.int .u8 (Go.bits .xor .u8 (rd t442 a1) a2)))) ?hg ?ho ?hn ?hr ?_; (case ho => rfl); (case hg => rfl); (case hn => rfl); (case hr => first | (go_simp; done) | (go_simp; rfl)); intro w118 hw; have hg : wc.grownBy w118 (some go69) := (by rw [hw]; exact HP117.2); have hp_ : Kd.R (Kd.int .u8) 5 w118 w.heap.size (fun k_ => some k_ ≠ (.slice Ao48 t454.length co48 : Value).ownBlock) (.slice (some ⟨go69, 0, none⟩) t442.length co42) y463 := (by rw [hw, Ny463.out]; exact HP117.1); clear HP117; have n0_ := Aside0.mk (hp_); have n1_ := Aside0.mk (Kd.R_after (v := (.slice (some ⟨go69, 0, none⟩) t442.length co42)) (v1 := (.slice (some ⟨go69, 0, none⟩) t442.length co42)) (ok := (fun _ => True)) (by (with_reducible repeat (first | apply Kd.R_alloc | apply Kd.R_drewN | apply Kd.R_drew)); exact Kd.R_mono HO_460001.out (fun _ hk => ⟨trivial, hk⟩)) hg (.inl rfl)); have n2_ := Aside0.mk (blk_grown (g := gb430) (o := .cells #[.int .i64 a0_0, .slice A0_1 l0_1.length c0_1] 68 (0, 0)) (by (with_reducible repeat (first | refine blk_drewN ?_ _ | refine blk_drew ?_ | refine blk_alloc ?_ _)); exact BK430.out) hg (Kd.R_ne HO_7.out BK430.out (by decide))); have n3_ := Aside0.mk (blk_grown (g := gb459) (o := .cells #[.int .i64 t453, .slice Ao48 t454.length co48] 68 (0, 0)) (by (with_reducible repeat (first | refine blk_drewN ?_ _ | refine blk_drew ?_ | refine blk_alloc ?_ _)); exact BK459.out) hg (Kd.R_ne HO_7.out BK459.out (by decide))); have n4_ := Aside0.mk ((by rw [hw]; exact below_set (HB.out) GB69.out : Below w.heap.size w w118)); clear HO_7; clear HO_460001; clear BK430; clear BK459; clear HB; have HO_7 := n0_; have HO_460001 := n1_; have BK430 := n2_; have BK459 := n3_; have HB := n4_; clear n0_ n1_ n2_ n3_ n4_; clear hg hw hp_) | ((with_reducible refine gate_callee (f := 105) rfl ?_); refine goesL_ (some 99) rfl rfl Try.func105 (by kernel_rfl) rfl #[.slice (some ⟨go69, 0, none⟩) y463.length co42, .int .i64 0] rfl (by (try simp only [List.map_toArray, List.map_cons, List.map_nil]); first | done | (rw [show y463.length = t442.length from (Kd.R_reads' HO_7.out).1.symm] <;> rfl) | rfl | (simp only [List.length_drop, List.length_take]; rfl)) ?_; (with_reducible refine (log_Next.calls kj59 _ _ y463 0 t464 t465 t468 t469 _ ?side1 ?side2 A70.out).mono ?_); (case side1 => repeat (first | exact (Kd.R_reads' HO_7.out).2.2 | (with_reducible refine Kd.C_alloc ?_ _) | (with_reducible refine Kd.C_drewN ?_ _) | (with_reducible refine Kd.C_drew ?_))); (case side2 => rw [show y463.length = t442.length from (Kd.R_reads' HO_7.out).1.symm]; exact (Kd.R_reads' HO_7.out).2.1); rintro e w119 ⟨v466, rfl, ho0, hb⟩; refine ⟨_, rfl, ?_⟩; have n0_ := Aside0.mk (Kd.R_elder' (by (with_reducible repeat (first | apply Kd.R_alloc | apply Kd.R_drewN | apply Kd.R_drew)); exact HO_7.out) (Kd.R_base ho0) hb); have n1_ := Aside0.mk (Kd.R_elder' (by (with_reducible repeat (first | apply Kd.R_alloc | apply Kd.R_drewN | apply Kd.R_drew)); exact HO_460001.out) (Kd.R_base ho0) hb); have n2_ := Aside0.mk (Kd.R_lower (Kd.R_new' (Kd.R_new' ho0 (Kd.R_lt (by (with_reducible repeat (first | apply Kd.R_alloc | apply Kd.R_drewN | apply Kd.R_drew)); exact HO_7.out))) (Kd.R_lt (by (with_reducible repeat (first | apply Kd.R_alloc | apply Kd.R_drewN | apply Kd.R_drew)); exact HO_460001.out))) (below_size (by repeat (first | (with_reducible first | exact HB.out | apply below_alloc | apply pw_below_drewN | apply below_drew1 | refine below_set ?_ GE430.out | refine below_set ?_ GE459.out) | exact HB.out)))); have n3_ := Aside0.mk (blk_below (g := gb430) (o := .cells #[.int .i64 a0_0, .slice A0_1 l0_1.length c0_1] 68 (0, 0)) (by (with_reducible repeat (first | refine blk_drewN ?_ _ | refine blk_drew ?_ | refine blk_alloc ?_ _)); exact BK430.out) hb); have n4_ := Aside0.mk (blk_below (g := gb459) (o := .cells #[.int .i64 t453, .slice Ao48 t454.length co48] 68 (0, 0)) (by (with_reducible repeat (first | refine blk_drewN ?_ _ | refine blk_drew ?_ | refine blk_alloc ?_ _)); exact BK459.out) hb); have n5_ := Aside0.mk (below_step (by repeat (first | (with_reducible first | exact HB.out | apply below_alloc | apply pw_below_drewN | apply below_drew1 | refine below_set ?_ GE430.out | refine below_set ?_ GE459.out) | exact HB.out)) hb); clear HO_7; clear HO_460001; clear BK430; clear BK459; clear HB; have HO_7 := n0_; have HO_460001 := n1_; have HO467 := n2_; have BK430 := n3_; have BK459 := n4_; have HB := n5_; clear n0_ n1_ n2_ n3_ n4_ n5_; (try clear hb); (try clear hb2); (try clear hk); (try clear hi); (try clear ho0)) | ((with_reducible refine gate_dst (N := 12) rfl ?_); (try (refine gate_guard (by rfl) ?_; dsimp only)); refine box_event ?hg (N := 12) ?hd (cs := #[.int .i64 0, .slice none 0 0]) (t := 68) ?hr ?_; (case hd => rfl); (case hg => rfl); (case hr => first | (go_simp; done) | (go_simp; rfl)); intro gb470 hg w120 hbox hb; have n0_ := Aside0.mk (Kd.R_below (by (with_reducible repeat (first | apply Kd.R_alloc | apply Kd.R_drewN | apply Kd.R_drew)); exact HO_7.out) hb); have n1_ := Aside0.mk (Kd.R_below (by (with_reducible repeat (first | apply Kd.R_alloc | apply Kd.R_drewN | apply Kd.R_drew)); exact HO_460001.out) hb); have n2_ := Aside0.mk (Kd.R_below (by (with_reducible repeat (first | apply Kd.R_alloc | apply Kd.R_drewN | apply Kd.R_drew)); exact HO467.out) hb); have n3_ := Aside0.mk (blk_below (g := gb430) (o := .cells #[.int .i64 a0_0, .slice A0_1 l0_1.length c0_1] 68 (0, 0)) (by (with_reducible repeat (first | refine blk_drewN ?_ _ | refine blk_drew ?_ | refine blk_alloc ?_ _)); exact BK430.out) hb); have n4_ := Aside0.mk (blk_below (g := gb459) (o := .cells #[.int .i64 t453, .slice Ao48 t454.length co48] 68 (0, 0)) (by (with_reducible repeat (first | refine blk_drewN ?_ _ | refine blk_drew ?_ | refine blk_alloc ?_ _)); exact BK459.out) hb); have n5_ := Aside0.mk (below_step (by repeat (first | (with_reducible first | exact HB.out | apply below_alloc | apply pw_below_drewN | apply below_drew1 | refine below_set ?_ GE430.out | refine below_set ?_ GE459.out) | exact HB.out)) hb); have n6_ := Aside0.mk (hbox); have n7_ := Aside0.mk ((by rw [hg]; exact (below_size (by repeat (first | (with_reducible first | exact HB.out | apply below_alloc | apply pw_below_drewN | apply below_drew1 | refine below_set ?_ GE430.out | refine below_set ?_ GE459.out) | exact HB.out))) : w.heap.size ≤ gb470)); have n8_ := Aside0.mk ((by rw [hg]; exact (below_size (by repeat (first | (with_reducible first | exact HB.out | apply below_alloc | apply pw_below_drewN | apply below_drew1 | refine below_set ?_ GE430.out | refine below_set ?_ GE459.out) | exact HB.out))) : w.heap.size ≤ gb470)); have n9_ := Aside0.mk ((by rw [hg]; exact Nat.ne_of_lt (blk_lt (g := gb430) (o := .cells #[.int .i64 a0_0, .slice A0_1 l0_1.length c0_1] 68 (0, 0)) (by (with_reducible repeat (first | refine blk_drewN ?_ _ | refine blk_drew ?_ | refine blk_alloc ?_ _)); exact BK430.out)) : gb430 ≠ gb470)); have n10_ := Aside0.mk ((by rw [hg]; exact Nat.ne_of_gt (blk_lt (g := gb430) (o := .cells #[.int .i64 a0_0, .slice A0_1 l0_1.length c0_1] 68 (0, 0)) (by (with_reducible repeat (first | refine blk_drewN ?_ _ | refine blk_drew ?_ | refine blk_alloc ?_ _)); exact BK430.out)) : gb470 ≠ gb430)); have n11_ := Aside0.mk ((by rw [hg]; exact Nat.ne_of_lt (blk_lt (g := gb459) (o := .cells #[.int .i64 t453, .slice Ao48 t454.length co48] 68 (0, 0)) (by (with_reducible repeat (first | refine blk_drewN ?_ _ | refine blk_drew ?_ | refine blk_alloc ?_ _)); exact BK459.out)) : gb459 ≠ gb470)); have n12_ := Aside0.mk ((by rw [hg]; exact Nat.ne_of_gt (blk_lt (g := gb459) (o := .cells #[.int .i64 t453, .slice Ao48 t454.length co48] 68 (0, 0)) (by (with_reducible repeat (first | refine blk_drewN ?_ _ | refine blk_drew ?_ | refine blk_alloc ?_ _)); exact BK459.out)) : gb470 ≠ gb459)); clear HO_7; clear HO_460001; clear HO467; clear BK430; clear BK459; clear HB; have HO_7 := n0_; have HO_460001 := n1_; have HO467 := n2_; have BK430 := n3_; have BK459 := n4_; have HB := n5_; have BK470 := n6_; have GW470 := n7_; have GE470 := n8_; have NB430_470 := n9_; have NB470_430 := n10_; have NB459_470 := n11_; have NB470_459 := n12_; clear n0_ n1_ n2_ n3_ n4_ n5_ n6_ n7_ n8_ n9_ n10_ n11_ n12_; clear hb hbox hg; have hnb121 := NB470_430.out; have hnc121 := NB430_470.out; have hnb122 := NB470_459.out; have hnc122 := NB459_470.out; have hcz123_0 : w120.cell? ⟨gb470, 0, none⟩ = some (.int .i64 0) := (blk_cell BK470.out 0).trans rfl; have hcz123_1 : w120.cell? ⟨gb470, 1, none⟩ = some (.slice none 0 0) := (blk_cell BK470.out 1).trans rfl; have hfz123_0 := blk_frozen BK470.out 0; have hfz123_1 := blk_frozen BK470.out 1; obtain ⟨Ao124, co124, eo124⟩ := Kd.R_slice HO467.out; subst eo124; have p472 : 0 ≤ (1 : Int) := (by omega); have q472 : 1 < (y463.length : Int) := (by have h_ : (1 : Int) < ((t442.length : Int) : Int) := of_decide_eq_true (by first | (with_reducible assumption) | assumption); first | (have e_ := (Kd.R_reads' HO_7.out).1; omega) | simpa only [Ny463.out, List.length_set] using h_); have ql472 : ((1 : Int) < ((t442.length : Int) : Int)) = True := eq_true (of_decide_eq_true (by first | (with_reducible assumption) | assumption)); (try have qn472 : (1 < t442.length) = True := eq_true (by have h_ : (1 : Int) < ((t442.length : Int) : Int) := of_decide_eq_true (by first | (with_reducible assumption) | assumption); omega)); obtain ⟨ad472, e472, hx472_0⟩ := Kd.at_int (Kd.R_reads' HO_7.out).2.2 1 p472 q472; obtain rfl : (⟨go69, 0, none⟩ : Addr) = ad472 := (by injection e472); (first | simp only [add_plain] at hx472_0 | simp only [add_at] at hx472_0 | simp only [Addr.add, Nat.zero_add] at hx472_0 | skip); have qi472 : (1 < y463.length) = True := eq_true (by omega); (try rw [show ((1 : Int)).toNat = 1 from rfl] at hx472_0); have hn472_0 : (⟨go69, 0, none⟩ : Addr).block ≠ gb470 := Kd.own_blk (Kd.R_ne HO_7.out BK470.out (by decide)); have hn472_1 : (⟨go69, 0, none⟩ : Addr).block ≠ gb470 := Kd.own_blk (Kd.R_ne HO_7.out BK470.out (by decide)); replace hx472_0 := (cell_far (p := ⟨gb470, 0, none⟩) (by first | (rw [add_block]; exact hn472_0) | (show (Addr.add _ _).block ≠ _; rw [add_block]; exact hn472_0) | exact hn472_0) (.int .i64 t464)).trans hx472_0; replace hx472_0 := (cell_far (p := ⟨gb470, 1, none⟩) (by first | (rw [add_block]; exact hn472_1) | (show (Addr.add _ _).block ≠ _; rw [add_block]; exact hn472_1) | exact hn472_1) (.slice Ao124 t465.length co124)).trans hx472_0; clear hn472_0; clear hn472_1; replace p472 := eq_true p472; replace q472 := eq_true q472) | (go_at_call 101; (with_reducible refine (horariumlaw47_heads.calls kj59  t473 _ A116.out).mono ?_); rintro e w125 ⟨rfl, hb⟩; have n0_ := Aside0.mk (Kd.R_below (by (with_reducible repeat (first | apply Kd.R_alloc | apply Kd.R_drewN | apply Kd.R_drew)); exact (Kd.R_mono (Kd.R_far (p := ⟨gb470, 1, none⟩) (Kd.R_far (p := ⟨gb470, 0, none⟩) (Kd.R_types HO_7.out BK470.out (by decide)) (fun _ hk => hk.2) (.int .i64 t464)) (fun _ hk => hk.2) (.slice Ao124 t465.length co124)) (fun _ h_ => h_.1))) hb); have n1_ := Aside0.mk (Kd.R_below (by (with_reducible repeat (first | apply Kd.R_alloc | apply Kd.R_drewN | apply Kd.R_drew)); exact (Kd.R_mono (Kd.R_far (p := ⟨gb470, 1, none⟩) (Kd.R_far (p := ⟨gb470, 0, none⟩) (Kd.R_types HO_460001.out BK470.out (by decide)) (fun _ hk => hk.2) (.int .i64 t464)) (fun _ hk => hk.2) (.slice Ao124 t465.length co124)) (fun _ h_ => h_.1))) hb); have n2_ := Aside0.mk (Kd.R_below (by (with_reducible repeat (first | apply Kd.R_alloc | apply Kd.R_drewN | apply Kd.R_drew)); exact (Kd.R_mono (Kd.R_far (p := ⟨gb470, 1, none⟩) (Kd.R_far (p := ⟨gb470, 0, none⟩) (Kd.R_types HO467.out BK470.out (by decide)) (fun _ hk => hk.2) (.int .i64 t464)) (fun _ hk => hk.2) (.slice Ao124 t465.length co124)) (fun _ h_ => h_.1))) hb); have n3_ := Aside0.mk (blk_below (g := gb430) (o := .cells #[.int .i64 a0_0, .slice A0_1 l0_1.length c0_1] 68 (0, 0)) (by (with_reducible repeat (first | refine blk_drewN ?_ _ | refine blk_drew ?_ | refine blk_alloc ?_ _)); refine blk_far ?_ NB430_470.out _; (with_reducible repeat (first | refine blk_drewN ?_ _ | refine blk_drew ?_ | refine blk_alloc ?_ _)); refine blk_far ?_ NB430_470.out _; (with_reducible repeat (first | refine blk_drewN ?_ _ | refine blk_drew ?_ | refine blk_alloc ?_ _)); exact BK430.out) hb); have n4_ := Aside0.mk (blk_below (g := gb459) (o := .cells #[.int .i64 t453, .slice Ao48 t454.length co48] 68 (0, 0)) (by (with_reducible repeat (first | refine blk_drewN ?_ _ | refine blk_drew ?_ | refine blk_alloc ?_ _)); refine blk_far ?_ NB459_470.out _; (with_reducible repeat (first | refine blk_drewN ?_ _ | refine blk_drew ?_ | refine blk_alloc ?_ _)); refine blk_far ?_ NB459_470.out _; (with_reducible repeat (first | refine blk_drewN ?_ _ | refine blk_drew ?_ | refine blk_alloc ?_ _)); exact BK459.out) hb); have n5_ := Aside0.mk (blk_below (g := gb470) (o := .cells #[.int .i64 t464, .slice Ao124 t465.length co124] 68 (0, 0)) (by (with_reducible repeat (first | refine blk_drewN ?_ _ | refine blk_drew ?_ | refine blk_alloc ?_ _)); refine blk_put (cs := #[.int .i64 t464, .slice none 0 0]) ?_ 1 _ rfl; (with_reducible repeat (first | refine blk_drewN ?_ _ | refine blk_drew ?_ | refine blk_alloc ?_ _)); refine blk_put (cs := #[.int .i64 0, .slice none 0 0]) ?_ 0 _ rfl; (with_reducible repeat (first | refine blk_drewN ?_ _ | refine blk_drew ?_ | refine blk_alloc ?_ _)); exact BK470.out) hb); have n6_ := Aside0.mk (below_step (by repeat (first | (with_reducible first | exact HB.out | apply below_alloc | apply pw_below_drewN | apply below_drew1 | refine below_set ?_ GE430.out | refine below_set ?_ GE459.out | refine below_set ?_ GE470.out) | exact HB.out)) hb); clear HO_7; clear HO_460001; clear HO467; clear BK430; clear BK459; clear BK470; clear HB; have HO_7 := n0_; have HO_460001 := n1_; have HO467 := n2_; have BK430 := n3_; have BK459 := n4_; have BK470 := n5_; have HB := n6_; clear n0_ n1_ n2_ n3_ n4_ n5_ n6_; (try clear hb); (try clear hb2); (try clear hk); (try clear hi)))
                                                  go_ret
                                                  exact ⟨by first | rfl | (simp [errW_none, errW_some] <;> rfl) | (simp [*, errW_none, errW_some] <;> rfl), by repeat (first | (with_reducible first | exact HB.out | apply below_alloc | apply pw_below_drewN | apply below_drew1 | refine below_set ?_ GE430.out | refine below_set ?_ GE459.out | refine below_set ?_ GE470.out) | exact HB.out)⟩
                                                · rw [if_neg c115] at H
                                                  exact absurd ((Option.some.inj H).trans hr_) Bool.false_ne_true
                                              · rw [if_neg c114] at H
                                                exact absurd ((Option.some.inj H).trans hr_) Bool.false_ne_true
                                            · rw [if_neg c113] at H
                                              exact absurd ((Option.some.inj H).trans hr_) Bool.false_ne_true
                                          · rw [if_neg c112] at H
                                            exact absurd ((Option.some.inj H).trans hr_) Bool.false_ne_true
                                        · rw [if_neg c111] at H
                                          exact absurd H (by simp)
                                      · rw [if_neg c110] at H
                                        exact absurd ((Option.some.inj H).trans hr_) Bool.false_ne_true
                                    · rw [if_neg c109] at H
                                      exact absurd ((Option.some.inj H).trans hr_) Bool.false_ne_true
                                · rw [if_neg c68] at H
                                  exact absurd H (by simp)
                              · rw [if_neg c67] at H
                                exact absurd H (by simp)
                · rw [if_neg c36] at H
                  exact absurd H (by simp)
  · rw [if_neg c4] at H
    exact absurd H (by simp)

end Go.Proofs.Ytccjdefhieilpaa.PL
