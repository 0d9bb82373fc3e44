/-
 What the law VaultPlays needs of VRead (what it does not use is left out by a program of this session, wip/tools/dce.py).
-/
import Derived.Test.YtccjdefhieilpaaRPLx6
import Derived.Test.YtccjdefhieilpaaRLogRead
namespace Go.Proofs.Ytccjdefhieilpaa.PL
open Go.RowKit Go.Proofs.YtccjdefhieilpaaW.PrintWords Go.Proofs.YtccjdefhieilpaaW.PrintLast Go.Proofs.YtccjdefhieilpaaW.PrintMore Go.Proofs.Ytccjdefhieilpaa.PB
attribute [local go_sem] max2_int min2_int max_two min_two max_three min_three max_four min_four   -- for this text's walks alone
set_option linter.unusedVariables false
set_option linter.unusedSimpArgs false
def lentBK (A0 : Option Addr) (b : List Int) : Kd (List Int) where
 sz := 1
 E := []
 K := fun _ xs cs => ∃ A c, cs = [.slice A xs.length c] ∧ xs.length ≤ c ∧ ∀ W : World, (Kd.int .u8).C W A0 b.length b → (Kd.int .u8).C W A xs.length xs
 M := fun _ _ _ xs cs => ∃ A c, cs = [.slice A xs.length c] ∧ xs.length ≤ c ∧ ∀ W : World, (Kd.int .u8).C W A0 b.length b → (Kd.int .u8).C W A xs.length xs
 K_len := by
  rintro _ _ _ ⟨A, c, rfl, _⟩
  rfl
 K_one := by
  rintro _ _ _ ⟨A, c, rfl, _⟩ u hu
  rw [List.mem_singleton.1 hu]
  rfl
 K_below := fun _ h => h
 K_of_M := fun h => h
 M_mono := fun _ h => h
 M_bound := fun h => h
 M_move := fun _ h => h
 M_lower := fun _ h => h
def lentB (A0 : Option Addr) (b : List Int) : Kd S68 := Kd.iso (Kd.pair (Kd.int .i64) (lentBK A0 b)) (fun x : S68 => (x.f0, x.f1))
theorem lentB_mk {A0 : Option Addr} {b : List Int} {w : World} {base : Nat} {ok : Nat → Prop} (x : S68) {A : Option Addr} {c : Nat} (hl : x.f1.length ≤ c) (hC : ∀ W : World, (Kd.int .u8).C W A0 b.length b → (Kd.int .u8).C W A x.f1.length x.f1) : (lentB A0 b).M w base ok x [.int .i64 x.f0, .slice A x.f1.length c] :=
 ⟨[.int .i64 x.f0], [.slice A x.f1.length c], rfl, rfl, A, c, rfl, hl, hC⟩
theorem lentB_C {A0 : Option Addr} {b : List Int} {w : World} {A : Option Addr} {n : Nat} {xs : List S68} (h : (lentB A0 b).C w A n xs) (hb : (Kd.int .u8).C w A0 b.length b) : k68.C w A n xs :=
 ReadsRow.imp_ h (Below.refl _ _) (fun x cs hK => by
  obtain ⟨c0, c1, rfl, h0, A1, c, rfl, hl, hC⟩ := hK
  exact ⟨c0, _, rfl, h0, A1, c, rfl, hl, hC w hb⟩)
theorem lentB_V {A0 : Option Addr} {b : List Int} {w : World} {base base' : Nat} {ok okb : Nat → Prop} {v : Value} {xs : List S68} (h : (lentB A0 b).R 68 w base ok v xs) (hb : (Kd.int .u8).F w okb A0 b.length b) : Kd.V k68 68 w base' (fun k => okb k ∨ some k = v.ownBlock) v xs := by
 obtain ⟨A, c, rfl⟩ := Kd.R_slice h
 refine Kd.V_mk (Kd.R_reads' h).2.1 (fun W' hW => ?_)
 have h2 : (lentB A0 b).R 68 W' base (fun k => some k = (Value.slice A xs.length c).ownBlock) (.slice A xs.length c) xs := Kd.R_step (Kd.R_tight rfl h) (fun k hk hlt => hW k (.inr hk) hlt)
 exact lentB_C (Kd.R_reads' h2).2.2 (hb W' (fun k hk hlt => hW k (.inl hk) hlt))
set_option maxHeartbeats 8000000 in
set_option maxRecDepth 100000 in
theorem rread2_calls (k : Nat) (A0 : Option Addr) (c0 : Nat) (l0 : List Int) (r1 : List (S68)) (r2 : Int) (w : World) (hr0 : Kd.C (Kd.int .u8) w A0 l0.length l0) (hc0 : l0.length ≤ c0) (h : horariumref47_Read.f k l0 = some (r1, r2)) :
  Calls Try.prog 107 #[.slice A0 l0.length c0] w fun e w' => ∃ v0_ : Value, e = .returned (.tuple #[v0_, .int .i64 r2]) ∧ Kd.R (lentB A0 l0) 68 w' w.heap.size (fun _ => True) v0_ r1 ∧ Below w.heap.size w w' := by
 have hu68 := Try.underlying68
 have HR0 := Aside0.mk hr0
 have HC0 := Aside0.mk hc0
 clear hr0 hc0
 have HB := Aside0.mk (Below.refl w.heap.size w)
 have H : (horariumref47_Read.l0 k l0 ([] : List (S68)) 0) = some (r1, r2) := h
 clear h
 have H' := Aside0.mk H
 clear H
 go_enter Try.func107, Try.ntmps107
 go_wp2
 go_loopg [4, 5] k (fun kq v4 v5 w' => ∃ (x4_1 : List (S68)) (x5_1 : Int), v5 = .int .i64 x5_1 ∧ Aside0 (horariumref47_Read.l0 kq l0 x4_1 x5_1 = some (r1, r2)) ∧ Aside0 (kq ≤ k) ∧ Aside0 (Kd.R (lentB A0 l0) 68 w' w.heap.size (fun _ => True) v4 x4_1) ∧ Aside0 (Below w.heap.size w w'))
 case atStart => exact ⟨(([] : List (S68))), (0), (by first | rfl | (simp; done) | (simp [*]; done)), H', ⟨Nat.le_refl _⟩, ⟨by first | exact Kd.S_nil _ _ _ _ _ | exact Kd.N_nil _ _ _ _ _ | exact Kd.V_nil _ _ _ _ _ | exact Kd.Q_nil _ _ _ _ _ | exact Kd.R_nil _ _ _ _ _⟩, ⟨by repeat (first | (with_reducible first | exact HB.out | apply below_alloc | apply pw_below_drewN | apply below_drew1) | exact HB.out)⟩⟩
 case round =>
  clear H'
  try clear c1
  obtain ⟨x4_1, x5_1, rfl, HA, HK1, HO_4, HB⟩ := hrel
  cases gk with
  | zero => exact absurd HA.out (by simp [horariumref47_Read.l0])
  | succ k1 =>
   have H := HA.out
   clear HA
   simp only [horariumref47_Read.l0] at H
   replace H := Option.bind_eq_some_iff.mp H
   obtain ⟨⟨t345, t346, t349, t350⟩, A20, H⟩ := H
   replace H : (if t350 = 0 then (if x4_1.length < 4398046511104 then (horariumref47_Read.l0 k1 l0 (x4_1 ++ [(⟨t345, t346⟩ : S68)]) t349) else (none)) else (some (x4_1, x5_1))) = some (r1, r2) := H
   have A2 := Aside0.mk A20
   clear A20
   by_cases c3 : t350 = 0
   ·rw [if_pos c3] at H
    have c3b0 : (t350 == 0) = true := beq_iff_eq.mpr c3
    have c3b1 : (t350 != 0) = false := bne_eq_false_iff_eq.mpr c3
    clear c3
    by_cases c4 : x4_1.length < 4398046511104
    ·rw [if_pos c4] at H
     have LMc4 := Aside0.mk c4
     clear c4
     obtain ⟨y352, hy352⟩ : ∃ y_ : List (S68), y_ = (x4_1 ++ [(⟨t345, t346⟩ : S68)]) := ⟨_, rfl⟩
     replace H : (horariumref47_Read.l0 k1 l0 y352 t349) = some (r1, r2) := by first | (rw [hy352]; with_reducible exact H) | (have H2_ := (Option.bind_some _ _).symm.trans H; rw [hy352]; with_reducible exact H2_) | (have H2_ := (Option.bind_some _ _).symm.trans H; with_reducible exact H2_) | with_reducible exact H | (rw [hy352]; exact H) | exact H
     have Ny352 := Aside0.mk hy352
     clear hy352
     have H' := Aside0.mk H
     clear H
     go_wp2_with (first | ((with_reducible refine gate_callee (f := 106) rfl ?_); refine goesL_ (some 12) rfl rfl Try.func106 (by kernel_rfl) rfl #[.slice A0 l0.length c0, .int .i64 x5_1] rfl (by (try simp only [List.map_toArray, List.map_cons, List.map_nil]); first | done | rfl) ?_; (with_reducible refine (horariumref47_Next.calls k1 _ _ l0 x5_1 t345 t346 t349 t350 _ ?side1 ?side2 A2.out).mono ?_); (case side1 => repeat (first | exact (Kd.C_below HR0.out HB.out) | (with_reducible refine Kd.C_alloc ?_ _) | (with_reducible refine Kd.C_drewN ?_ _) | (with_reducible refine Kd.C_drew ?_))); (case side2 => exact HC0.out); rintro e w5 ⟨Ao8, co8, rfl, hl_, hC_, hb⟩; refine ⟨_, rfl, ?_⟩; have n0_ := Aside0.mk (Kd.R_below HO_4.out hb); have n2_ := Aside0.mk (below_step (by repeat (first | (with_reducible first | exact HB.out | apply below_alloc | apply pw_below_drewN | apply below_drew1) | exact HB.out)) hb); have HL8 := Aside0.mk hl_; have HC8 := Aside0.mk hC_; clear HO_4 HB hb hl_ hC_; have HO_4 := n0_; have HB := n2_; clear n0_ n2_) | ((with_reducible refine gate_dst (N := 6) rfl ?_); refine box_event ?hg (N := 6) ?hd (cs := #[.int .i64 0, .slice none 0 0]) (t := 68) ?hr ?_; (case hd => rfl); (case hg => rfl); (case hr => first | (go_simp; done) | (go_simp; rfl)); intro gb351 hg w6 hbox hb; have n0_ := Aside0.mk (Kd.R_below (Kd.R_mono (ok' := fun k_ => k_ ≠ gb351) (Kd.R_bound HO_4.out) (fun k_ hk => by rw [hg]; have := hk.2.2.1; omega)) hb); have n2_ := Aside0.mk (below_step (by repeat (first | (with_reducible first | exact HB.out | apply below_alloc | apply pw_below_drewN | apply below_drew1) | exact HB.out)) hb); have n3_ := Aside0.mk hbox; have n5_ := Aside0.mk ((by rw [hg]; exact below_size (by repeat (first | (with_reducible first | exact HB.out | apply below_alloc | apply pw_below_drewN | apply below_drew1) | exact HB.out))) : w.heap.size ≤ gb351); clear HO_4 HB; have HO_4 := n0_; have HB := n2_; have BK351 := n3_; have GE351 := n5_; clear n0_ n2_ n3_ n5_ hb hbox hg; have hcz7_0 : w6.cell? ⟨gb351, 0, none⟩ = some (.int .i64 0) := (blk_cell BK351.out 0).trans rfl; have hcz7_1 : w6.cell? ⟨gb351, 1, none⟩ = some (.slice none 0 0) := (blk_cell BK351.out 1).trans rfl; have hfz7_0 := blk_frozen BK351.out 0; have hfz7_1 := blk_frozen BK351.out 1) | ((with_reducible refine gate_store (t := 68) (p := 6) rfl ?_); refine store_event (t := 68) (p := 6) (v := ?vo_) (w1 := ((w6.setCell ⟨gb351, 0, none⟩ (.int .i64 t345)).setCell ⟨gb351, 1, none⟩ (.slice Ao8 t346.length co8))) ?hg ?ho ?hn ?hr ?_; (case ho => rfl); (case hg => rfl); (case hn => rfl); (case hr => first | (go_simp; done) | (go_simp; rfl)); intro w9 hw; have n0_ : Aside0 (Kd.R (lentB A0 l0) 68 w9 w.heap.size (fun k_ => k_ ≠ gb351) u4 x4_1) := ⟨(by rw [hw]; exact Kd.R_far (p := ⟨gb351, 1, none⟩) (Kd.R_far (p := ⟨gb351, 0, none⟩) HO_4.out (fun _ hk => hk) _) (fun _ hk => hk) _)⟩; have n2_ : Aside0 (w9.heap[gb351]? = some (.cells #[.int .i64 t345, .slice Ao8 t346.length co8] 68 (0, 0))) := ⟨(by rw [hw]; refine blk_put (cs := #[.int .i64 t345, .slice none 0 0]) ?_ 1 _ rfl; refine blk_put (cs := #[.int .i64 0, .slice none 0 0]) ?_ 0 _ rfl; exact BK351.out)⟩; have n3_ : Aside0 (Below w.heap.size w w9) := ⟨(by rw [hw]; exact (by repeat (first | (with_reducible first | exact HB.out | apply below_alloc | apply pw_below_drewN | apply below_drew1 | refine below_set ?_ GE351.out) | exact HB.out)))⟩; clear hw HO_4 BK351 HB; have HO_4 := n0_; have BK351 := n2_; have HB := n3_; clear n0_ n2_ n3_; have hcz10_0 : w9.cell? ⟨gb351, 0, none⟩ = some (.int .i64 t345) := (blk_cell BK351.out 0).trans rfl; have hcz10_1 : w9.cell? ⟨gb351, 1, none⟩ = some (.slice Ao8 t346.length co8) := (blk_cell BK351.out 1).trans rfl; have hfz10_0 := blk_frozen BK351.out 0; have hfz10_1 := blk_frozen BK351.out 1) | ((with_reducible refine gate_builtin (b := .append) (xs := #[.tmp 20, .tmp 22]) rfl ?_); at_builtin; refine Kd.R_append (lentB A0 l0) (w0 := w) w.heap.size rfl (.tmp 20) (.tmp 22) 66 68 (.agg #[(.int .i64 0), (.slice none 0 0)]) 32 rfl Try.underlying66 info68 rfl (Nat.succ_pos 1) (by omega) u4 x4_1 (⟨t345, t346⟩ : S68) [.int .i64 t345, .slice Ao8 t346.length co8] (fun k_ => k_ ≠ gb351) (fun _ => False) rfl rfl ?aP (fun k_ hk_ => hk_.elim) ?aF ?aO ?aB ?aS ?aL ?_; (case aP => exact lentB_mk (⟨t345, t346⟩ : S68) HL8.out HC8.out); (case aB => exact (by repeat (first | (with_reducible first | exact HB.out | apply below_alloc | apply pw_below_drewN | apply below_drew1 | refine below_set ?_ GE351.out) | exact HB.out))); (case aF => exact (fun k_ hk => Kd.freshB (g := gb351) (o := .cells #[.int .i64 t345, .slice Ao8 t346.length co8] 68 (0, 0)) BK351.out k_ hk)); (case aO => exact HO_4.out); (case aS => exact below_size (by repeat (first | (with_reducible first | exact HB.out | apply below_alloc | apply pw_below_drewN | apply below_drew1 | refine below_set ?_ GE351.out) | exact HB.out))); (case aL => have := LMc4.out; omega); intro v353 w11 ho hb hg hat; rw [← Ny352.out] at ho; have n1_ := Aside0.mk hb; have n2_ := Aside0.mk ho; clear BK351 HB HO_4; have HB := n1_; have HO354 := n2_; clear n1_ n2_ ho hb hg hat))
     go_roundg k1
     case measure => have := HK1.out; omega
     case rel => exact ⟨(y352), (t349), (by first | rfl | (simp; done) | (simp [*]; done)), H', ⟨by have := HK1.out; omega⟩, ⟨by (with_reducible repeat (first | apply Kd.R_alloc | apply Kd.R_drewN | apply Kd.R_drew)); exact Kd.R_mono HO354.out (fun _ hk => trivial)⟩, ⟨by repeat (first | (with_reducible first | exact HB.out | apply below_alloc | apply pw_below_drewN | apply below_drew1 | refine below_set ?_ GE351.out) | exact HB.out)⟩⟩
    ·rw [if_neg c4] at H
     exact absurd H (by simp)
   ·rw [if_neg c3] at H
    have c3b0 : (t350 == 0) = false := beq_eq_false_iff_ne.mpr c3
    have c3b1 : (t350 != 0) = true := bne_iff_ne.mpr c3
    simp only [Option.some.injEq, Prod.mk.injEq] at H
    obtain ⟨rfl, rfl⟩ := H
    go_wp2_with (first | ((with_reducible refine gate_callee (f := 106) rfl ?_); refine goesL_ (some 12) rfl rfl Try.func106 (by kernel_rfl) rfl #[.slice A0 l0.length c0, .int .i64 x5_1] rfl (by (try simp only [List.map_toArray, List.map_cons, List.map_nil]); first | done | rfl) ?_; (with_reducible refine (horariumref47_Next.calls k1 _ _ l0 x5_1 t345 t346 t349 t350 _ ?side1 ?side2 A2.out).mono ?_); (case side1 => repeat (first | exact (Kd.C_below HR0.out HB.out) | (with_reducible refine Kd.C_alloc ?_ _) | (with_reducible refine Kd.C_drewN ?_ _) | (with_reducible refine Kd.C_drew ?_))); (case side2 => exact HC0.out); rintro e w12 ⟨Ao15, co15, rfl, hl_, hC_, hb⟩; refine ⟨_, rfl, ?_⟩; have n0_ := Aside0.mk (Kd.R_below HO_4.out hb); have n2_ := Aside0.mk (below_step (by repeat (first | (with_reducible first | exact HB.out | apply below_alloc | apply pw_below_drewN | apply below_drew1) | exact HB.out)) hb); have HL8 := Aside0.mk hl_; have HC8 := Aside0.mk hC_; clear HO_4 HB hb hl_ hC_; have HO_4 := n0_; have HB := n2_; clear n0_ n2_) | ((with_reducible refine gate_dst (N := 6) rfl ?_); refine box_event ?hg (N := 6) ?hd (cs := #[.int .i64 0, .slice none 0 0]) (t := 68) ?hr ?_; (case hd => rfl); (case hg => rfl); (case hr => first | (go_simp; done) | (go_simp; rfl)); intro gb351 hg w13 hbox hb; have n0_ := Aside0.mk (Kd.R_below (Kd.R_mono (ok' := fun k_ => k_ ≠ gb351) (Kd.R_bound HO_4.out) (fun k_ hk => by rw [hg]; have := hk.2.2.1; omega)) hb); have n2_ := Aside0.mk (below_step (by repeat (first | (with_reducible first | exact HB.out | apply below_alloc | apply pw_below_drewN | apply below_drew1) | exact HB.out)) hb); have n3_ := Aside0.mk hbox; have n5_ := Aside0.mk ((by rw [hg]; exact below_size (by repeat (first | (with_reducible first | exact HB.out | apply below_alloc | apply pw_below_drewN | apply below_drew1) | exact HB.out))) : w.heap.size ≤ gb351); clear HO_4 HB; have HO_4 := n0_; have HB := n2_; have BK351 := n3_; have GE351 := n5_; clear n0_ n2_ n3_ n5_ hb hbox hg; have hcz7_0 : w13.cell? ⟨gb351, 0, none⟩ = some (.int .i64 0) := (blk_cell BK351.out 0).trans rfl; have hcz7_1 : w13.cell? ⟨gb351, 1, none⟩ = some (.slice none 0 0) := (blk_cell BK351.out 1).trans rfl; have hfz7_0 := blk_frozen BK351.out 0; have hfz7_1 := blk_frozen BK351.out 1))
    go_ret2
    exact ⟨_, by first | rfl | (simp [errW_none, errW_some] <;> rfl) | (simp [*, errW_none, errW_some] <;> rfl), by (with_reducible repeat (first | apply Kd.R_alloc | apply Kd.R_drewN | apply Kd.R_drew)); exact Kd.R_mono (Kd.R_far (p := ⟨gb351, 1, none⟩) (Kd.R_far (p := ⟨gb351, 0, none⟩) HO_4.out (fun _ hk => hk) _) (fun _ hk => hk) _) (fun _ hk => trivial), by repeat (first | (with_reducible first | exact HB.out | apply below_alloc | apply pw_below_drewN | apply below_drew1 | refine below_set ?_ GE351.out) | exact HB.out)⟩
end Go.Proofs.Ytccjdefhieilpaa.PL
