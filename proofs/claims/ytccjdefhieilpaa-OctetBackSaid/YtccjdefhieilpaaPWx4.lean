-- Written by a program of this session (wip/tools/patch_print.py over the print of the kit)
import Derived.Test.YtccjdefhieilpaaPWx0
import Derived.Test.YtccjdefhieilpaaPWx2
import Derived.Test.YtccjdefhieilpaaPBx3
import Derived.Test.YtccjdefhieilpaaPBx4
import Derived.Test.YtccjdefhieilpaaPBx5
import Derived.Test.YtccjdefhieilpaaPBx6
namespace Go.Proofs.Ytccjdefhieilpaa.PW
open Go.RowKit Go.Proofs.YtccjdefhieilpaaW.PrintWords Go.Proofs.YtccjdefhieilpaaW.PrintLast Go.Proofs.YtccjdefhieilpaaW.PrintMore Go.Proofs.Ytccjdefhieilpaa.PB
attribute [local go_sem] max2_int min2_int max_two min_two max_three min_three max_four min_four   -- for this text's walks alone
set_option linter.unusedVariables false
set_option linter.unusedSimpArgs false

theorem run_mf (P : Program) (fn : Fn) (first cap : Array Value) (w : World) : (Instr.makeFunc fn first cap).run P w = .ok (.func fn first cap) w := rfl
theorem events_mf (P : Program) (fn : Fn) (first cap : Array Value) (w : World) (es : Array Event) : (Instr.makeFunc fn first cap).events P w es = es := rfl
attribute [local go_sem] run_mf events_mf
theorem goesC_ {P : Program} {ops : Array Oper} {Q : Exit → Act → World → Prop} {rest : List Oper} {oi : Oper} {a : Act} {w : World} (N : Option Tmp) (hd : oi.dst = N) (hg : oi.guard = none) {f : FuncId} {fn : Func} {o : Operand} {xs_ : Array Operand} {ts : Array TypeId} (hf : P.funcs[f]? = some fn) (hname : (fn.name == "runtime.NumGoroutine") = false) (hb : fn.body.isSome = true) (args : Array Value) {cap : Array Value}
    (hop : oi.op = .call { callee := .value o, args := xs_, argTypes := ts }) (ho : a.eval o = .func (.func f) #[] cap) (hargs : xs_.map a.eval ++ cap = args)
    (h : Calls P f args w fun e w' => ∃ v, e = .returned v ∧ wpList P ops Q rest (a.put N v) w') : wpList P ops Q (oi :: rest) a w := by
  refine wpList_plain hg fun K hK => ?_
  have he := enters_ hf hname hb args w
  have hrun : (execOp a.eval oi).run P w = .ok (.enter f args) w := by
    unfold execOp
    simp [hop, resolve, Deferred.ofValue, invoke, ho, hargs, he]
  unfold Oper.wp
  rw [hrun, Oper.upon_enter]
  refine h.mono fun e w'' hh => ?_
  obtain ⟨v, rfl, hk⟩ := hh
  subst hd
  exact hK _ _ hk
/-! ### horariumlaw03_OctetBack: function 19 -/
mutual
def horariumlaw03_OctetBack.j0 : Nat → Int → Int → ByteArray → List Int → List Int → List Int → Bool → Option (Bool)
  | 0, _, _, _, _, _, _, _ => none
  | k + 1, x0, x1, x2, x3, x4, x5, x42 => if x42 = true then ((horariumlaw03_heads.f k).bind fun t208 => (some t208)) else ((octet_Put.f k x0).bind fun t209 => ((octet_PutInt.f k x1).bind fun t212 => ((octet_PutText.f k x2).bind fun t215 => ((octet_PutList.f k x3).bind fun t218 => ((horariumlaw03_OctetBack_1.f t209 x4 x5).bind fun t221 => ((octet_Take.f k t221 (x4.length : Int)).bind fun bt224 => ((horariumlaw03_OctetBack_1.f t212 x4 x5).bind fun t227 => ((octet_TakeInt.f k t227 (x4.length : Int)).bind fun bt230 => ((horariumlaw03_OctetBack_1.f t215 x4 x5).bind fun t233 => ((octet_TakeText.f k t233 (x4.length : Int) (x2.size : Int)).bind fun bt236 => ((horariumlaw03_OctetBack_1.f t218 x4 x5).bind fun t239 => ((octet_TakeList.f k t239 (x4.length : Int) (x3.length : Int)).bind fun bt242 => (if bt224.1 = x0 then (if bt224.2.1 = (wrap64 ((x4.length : Int) + (t209.length : Int))) then (if bt224.2.2 = 0 then (if bt230.1 = x1 then (if bt230.2.1 = (wrap64 ((x4.length : Int) + (t212.length : Int))) then (horariumlaw03_OctetBack.j1 k x2 x3 (x4.length : Int) t215 t218 bt236.1 bt236.2.1 bt236.2.2 bt242.1 bt242.2.1 bt242.2.2 (bt230.2.2 != 0)) else (horariumlaw03_OctetBack.j1 k x2 x3 (x4.length : Int) t215 t218 bt236.1 bt236.2.1 bt236.2.2 bt242.1 bt242.2.1 bt242.2.2 true)) else (horariumlaw03_OctetBack.j1 k x2 x3 (x4.length : Int) t215 t218 bt236.1 bt236.2.1 bt236.2.2 bt242.1 bt242.2.1 bt242.2.2 true)) else (horariumlaw03_OctetBack.j1 k x2 x3 (x4.length : Int) t215 t218 bt236.1 bt236.2.1 bt236.2.2 bt242.1 bt242.2.1 bt242.2.2 true)) else (horariumlaw03_OctetBack.j1 k x2 x3 (x4.length : Int) t215 t218 bt236.1 bt236.2.1 bt236.2.2 bt242.1 bt242.2.1 bt242.2.2 true)) else (horariumlaw03_OctetBack.j1 k x2 x3 (x4.length : Int) t215 t218 bt236.1 bt236.2.1 bt236.2.2 bt242.1 bt242.2.1 bt242.2.2 true))))))))))))))
def horariumlaw03_OctetBack.j1 : Nat → ByteArray → List Int → Int → List Int → List Int → ByteArray → Int → Int → List Int → Int → Int → Bool → Option (Bool)
  | 0, _, _, _, _, _, _, _, _, _, _, _, _ => none
  | k + 1, x2, x3, x11, x15, x16, x23, x24, x25, x26, x27, x28, x127 => if x127 = true then (some false) else (if x23.toList = x2.toList then (if x24 = (wrap64 (x11 + (x15.length : Int))) then (if x25 = 0 then ((horariumref03_Ints.f k x26 x3).bind fun t247 => (if t247 = true then (if x27 = (wrap64 (x11 + (x16.length : Int))) then (if x28 = 0 then ((horariumlaw03_heads.f k).bind fun t248 => (some t248)) else (some false)) else (some false)) else (some false))) else (some false)) else (some false)) else (some false))
end
def horariumlaw03_OctetBack.f (k : Nat) (a0 : Int) (a1 : Int) (a2 : ByteArray) (l3 : List Int) (l4 : List Int) (l5 : List Int) : Option (Bool) := (horariumlaw03_short.f l4 a2 l3).bind fun t206 => (if t206 = true then ((horariumlaw03_short.f l5 a2 l3).bind fun t207 => (horariumlaw03_OctetBack.j0 k a0 a1 a2 l3 l4 l5 (!t207))) else (horariumlaw03_OctetBack.j0 k a0 a1 a2 l3 l4 l5 true))
theorem horariumlaw03_OctetBack.mono_l : ∀ k, (∀ y0 y1 y2 y3 y4 y5 y6, LeO (horariumlaw03_OctetBack.j0 k y0 y1 y2 y3 y4 y5 y6) (horariumlaw03_OctetBack.j0 (k + 1) y0 y1 y2 y3 y4 y5 y6)) ∧ (∀ y0 y1 y2 y3 y4 y5 y6 y7 y8 y9 y10 y11, LeO (horariumlaw03_OctetBack.j1 k y0 y1 y2 y3 y4 y5 y6 y7 y8 y9 y10 y11) (horariumlaw03_OctetBack.j1 (k + 1) y0 y1 y2 y3 y4 y5 y6 y7 y8 y9 y10 y11))
  | 0 => ⟨fun _ _ _ _ _ _ _ r h => by simp [horariumlaw03_OctetBack.j0] at h, fun _ _ _ _ _ _ _ _ _ _ _ _ r h => by simp [horariumlaw03_OctetBack.j1] at h⟩
  | k + 1 => by
    obtain ⟨ih0, ih1⟩ := horariumlaw03_OctetBack.mono_l k
    refine ⟨?_, ?_⟩
    · intro y0 y1 y2 y3 y4 y5 y6
      unfold horariumlaw03_OctetBack.j0
      repeat' first
      | (with_reducible exact ih0 _ _ _ _ _ _ _)
      | (with_reducible exact ih1 _ _ _ _ _ _ _ _ _ _ _ _)
      | (with_reducible exact horariumlaw03_heads.mono _)
      | (with_reducible exact horariumref03_Ints.mono _ _ _)
      | (with_reducible exact octet_Put.mono _ _)
      | (with_reducible exact octet_PutInt.mono _ _)
      | (with_reducible exact octet_PutList.mono _ _)
      | (with_reducible exact octet_PutText.mono _ _)
      | (with_reducible exact octet_Take.mono _ _ _)
      | (with_reducible exact octet_TakeInt.mono _ _ _)
      | (with_reducible exact octet_TakeList.mono _ _ _ _)
      | (with_reducible exact octet_TakeText.mono _ _ _ _)
      | (with_reducible exact LeO.refl _)
      | (with_reducible exact LeO.none _)
      | (with_reducible refine LeO.ite ?_ ?_)
      | (with_reducible refine LeO.bind ?_ (fun _ => ?_))
      | exact ih0 _ _ _ _ _ _ _
      | exact ih1 _ _ _ _ _ _ _ _ _ _ _ _
      | exact horariumlaw03_heads.mono _
      | exact horariumref03_Ints.mono _ _ _
      | exact octet_Put.mono _ _
      | exact octet_PutInt.mono _ _
      | exact octet_PutList.mono _ _
      | exact octet_PutText.mono _ _
      | exact octet_Take.mono _ _ _
      | exact octet_TakeInt.mono _ _ _
      | exact octet_TakeList.mono _ _ _ _
      | exact octet_TakeText.mono _ _ _ _
      | exact LeO.none _
      | refine LeO.ite ?_ ?_
      | refine LeO.bind ?_ (fun _ => ?_)
    · intro y0 y1 y2 y3 y4 y5 y6 y7 y8 y9 y10 y11
      unfold horariumlaw03_OctetBack.j1
      repeat' first
      | (with_reducible exact ih0 _ _ _ _ _ _ _)
      | (with_reducible exact ih1 _ _ _ _ _ _ _ _ _ _ _ _)
      | (with_reducible exact horariumlaw03_heads.mono _)
      | (with_reducible exact horariumref03_Ints.mono _ _ _)
      | (with_reducible exact octet_Put.mono _ _)
      | (with_reducible exact octet_PutInt.mono _ _)
      | (with_reducible exact octet_PutList.mono _ _)
      | (with_reducible exact octet_PutText.mono _ _)
      | (with_reducible exact octet_Take.mono _ _ _)
      | (with_reducible exact octet_TakeInt.mono _ _ _)
      | (with_reducible exact octet_TakeList.mono _ _ _ _)
      | (with_reducible exact octet_TakeText.mono _ _ _ _)
      | (with_reducible exact LeO.refl _)
      | (with_reducible exact LeO.none _)
      | (with_reducible refine LeO.ite ?_ ?_)
      | (with_reducible refine LeO.bind ?_ (fun _ => ?_))
      | exact ih0 _ _ _ _ _ _ _
      | exact ih1 _ _ _ _ _ _ _ _ _ _ _ _
      | exact horariumlaw03_heads.mono _
      | exact horariumref03_Ints.mono _ _ _
      | exact octet_Put.mono _ _
      | exact octet_PutInt.mono _ _
      | exact octet_PutList.mono _ _
      | exact octet_PutText.mono _ _
      | exact octet_Take.mono _ _ _
      | exact octet_TakeInt.mono _ _ _
      | exact octet_TakeList.mono _ _ _ _
      | exact octet_TakeText.mono _ _ _ _
      | exact LeO.none _
      | refine LeO.ite ?_ ?_
      | refine LeO.bind ?_ (fun _ => ?_)
theorem horariumlaw03_OctetBack.mono : ∀ a0 a1 a2 a3 a4 a5 k, LeO (horariumlaw03_OctetBack.f k a0 a1 a2 a3 a4 a5) (horariumlaw03_OctetBack.f (k + 1) a0 a1 a2 a3 a4 a5) := by
  intro a0 a1 a2 a3 a4 a5 k
  obtain ⟨ih0, ih1⟩ := horariumlaw03_OctetBack.mono_l k
  unfold horariumlaw03_OctetBack.f
  repeat' first
      | (with_reducible exact ih0 _ _ _ _ _ _ _)
      | (with_reducible exact ih1 _ _ _ _ _ _ _ _ _ _ _ _)
      | (with_reducible exact horariumlaw03_heads.mono _)
      | (with_reducible exact horariumref03_Ints.mono _ _ _)
      | (with_reducible exact octet_Put.mono _ _)
      | (with_reducible exact octet_PutInt.mono _ _)
      | (with_reducible exact octet_PutList.mono _ _)
      | (with_reducible exact octet_PutText.mono _ _)
      | (with_reducible exact octet_Take.mono _ _ _)
      | (with_reducible exact octet_TakeInt.mono _ _ _)
      | (with_reducible exact octet_TakeList.mono _ _ _ _)
      | (with_reducible exact octet_TakeText.mono _ _ _ _)
      | (with_reducible exact LeO.refl _)
      | (with_reducible exact LeO.none _)
      | (with_reducible refine LeO.ite ?_ ?_)
      | (with_reducible refine LeO.bind ?_ (fun _ => ?_))
      | exact ih0 _ _ _ _ _ _ _
      | exact ih1 _ _ _ _ _ _ _ _ _ _ _ _
      | exact horariumlaw03_heads.mono _
      | exact horariumref03_Ints.mono _ _ _
      | exact octet_Put.mono _ _
      | exact octet_PutInt.mono _ _
      | exact octet_PutList.mono _ _
      | exact octet_PutText.mono _ _
      | exact octet_Take.mono _ _ _
      | exact octet_TakeInt.mono _ _ _
      | exact octet_TakeList.mono _ _ _ _
      | exact octet_TakeText.mono _ _ _ _
      | exact LeO.none _
      | refine LeO.ite ?_ ?_
      | refine LeO.bind ?_ (fun _ => ?_)
set_option maxHeartbeats 8000000 in
set_option maxRecDepth 100000 in
theorem horariumlaw03_OctetBack.calls (k : Nat) (a0 : Int) (a1 : Int) (a2 : ByteArray) (A3 : Option Addr) (c3 : Nat) (l3 : List Int) (A4 : Option Addr) (c4 : Nat) (l4 : List Int) (A5 : Option Addr) (c5 : Nat) (l5 : List Int) (r : Bool) (w : World) (hr3 : Kd.C (Kd.int .i64) w A3 l3.length l3) (hc3 : l3.length ≤ c3) (hr4 : Kd.C (Kd.int .u8) w A4 l4.length l4) (hc4 : l4.length ≤ c4) (hr5 : Kd.C (Kd.int .u8) w A5 l5.length l5) (hc5 : l5.length ≤ c5) (h : horariumlaw03_OctetBack.f k a0 a1 a2 l3 l4 l5 = some r) :
    Calls Try.prog 19 #[.int .u64 a0, .int .i64 a1, .string a2, .slice A3 l3.length c3, .agg #[.slice A4 l4.length c4, .slice A5 l5.length c5]] w fun e w' => e = .returned (.bool r) ∧ Below w.heap.size w w' := by
  have HR3 := Aside0.mk hr3
  have HC3 := Aside0.mk hc3
  clear hr3 hc3
  have HR4 := Aside0.mk hr4
  have HC4 := Aside0.mk hc4
  clear hr4 hc4
  have HR5 := Aside0.mk hr5
  have HC5 := Aside0.mk hc5
  clear hr5 hc5
  have HB := Aside0.mk (Below.refl w.heap.size w)
  have H : ((horariumlaw03_short.f l4 a2 l3).bind fun t206 => (if t206 = true then ((horariumlaw03_short.f l5 a2 l3).bind fun t207 => (horariumlaw03_OctetBack.j0 k a0 a1 a2 l3 l4 l5 (!t207))) else (horariumlaw03_OctetBack.j0 k a0 a1 a2 l3 l4 l5 true))) = some r := h
  clear h
  have HC7 := Aside0.mk H
  clear H
  go_enter Try.func19, Try.ntmps19
  go_upto_region 1 with (((with_reducible refine gate_dst (N := 9) rfl ?_); refine box_event ?hg (N := 9) ?hd (cs := #[.slice A4 l4.length c4, .slice A5 l5.length c5]) (t := 114) ?hr ?_; (case hd => rfl); (case hg => rfl); (case hr => first | (go_simp; done) | (go_simp; rfl)); intro gb hgb w0b hbox hb2; have BX := Aside0.mk hbox; have n0_ := Aside0.mk (below_step HB.out hb2); clear HB; have HB := n0_; clear n0_ hbox hb2 hgb; have hcz0 : w0b.cell? ⟨gb, 0, none⟩ = some (.slice A4 l4.length c4) := (blk_cell BX.out 0).trans rfl; have hcz1 : w0b.cell? ⟨gb, 1, none⟩ = some (.slice A5 l5.length c5) := (blk_cell BX.out 1).trans rfl))
  go_cut [42] (fun v42 wc => ∃ (kq : Nat) (x42_6 : Bool), v42 = .bool x42_6 ∧ Aside0 (horariumlaw03_OctetBack.j0 kq a0 a1 a2 l3 l4 l5 x42_6 = some r) ∧ Aside0 (kq ≤ k) ∧ Aside0 (Below w.heap.size w wc) ∧ Aside0 (wc.heap[gb]? = some (.cells #[.slice A4 l4.length c4, .slice A5 l5.length c5] 114 (0, 0))))
  case first =>
    have H := HC7.out
    clear HC7
    replace H := Option.bind_eq_some_iff.mp H
    obtain ⟨t206, A80, H⟩ := H
    replace H : (if t206 = true then ((horariumlaw03_short.f l5 a2 l3).bind fun t207 => (horariumlaw03_OctetBack.j0 k a0 a1 a2 l3 l4 l5 (!t207))) else (horariumlaw03_OctetBack.j0 k a0 a1 a2 l3 l4 l5 true)) = some r := H
    have A8 := Aside0.mk A80
    clear A80
    by_cases c9 : t206 = true
    · subst c9
      have H1 : ((horariumlaw03_short.f l5 a2 l3).bind fun t207 => (horariumlaw03_OctetBack.j0 k a0 a1 a2 l3 l4 l5 (!t207))) = some r := by rw [if_pos rfl] at H; exact H
      clear H
      have H := H1
      clear H1
      replace H := Option.bind_eq_some_iff.mp H
      obtain ⟨t207, A100, H⟩ := H
      replace H : (horariumlaw03_OctetBack.j0 k a0 a1 a2 l3 l4 l5 (!t207)) = some r := H
      have A10 := Aside0.mk A100
      clear A100
      have H' := Aside0.mk H
      clear H
      go_wp2_with (first | ((with_reducible refine gate_callee (f := 44) rfl ?_); refine goesL_ (some 33) rfl rfl Try.func44 (by kernel_rfl) rfl #[.slice A4 l4.length c4, .string a2, .slice A3 l3.length c3] rfl (by (try simp only [List.map_toArray, List.map_cons, List.map_nil]); first | done | rfl | (simp only [List.length_drop, List.length_take]; rfl)) ?_; (with_reducible refine (horariumlaw03_short.calls _ _ l4 a2 _ _ l3 true _ ?side1 ?side2 ?side3 ?side4 A8.out).mono ?_); (case side1 => repeat (first | exact (Kd.C_below HR4.out HB.out) | (with_reducible refine Kd.C_alloc ?_ _) | (with_reducible refine Kd.C_drewN ?_ _) | (with_reducible refine Kd.C_drew ?_))); (case side2 => exact HC4.out); (case side3 => repeat (first | exact (Kd.C_below HR3.out HB.out) | (with_reducible refine Kd.C_alloc ?_ _) | (with_reducible refine Kd.C_drewN ?_ _) | (with_reducible refine Kd.C_drew ?_))); (case side4 => exact HC3.out); rintro e w' ⟨rfl, ⟨nd, rfl⟩⟩; refine ⟨_, rfl, ?_⟩) | (go_at_call 44; (with_reducible refine (horariumlaw03_short.calls _ _ l5 a2 _ _ l3 t207 _ ?side1 ?side2 ?side3 ?side4 A10.out).mono ?_); (case side1 => repeat (first | exact (Kd.C_below HR5.out (by repeat (first | (with_reducible first | exact HB.out | apply below_alloc | apply pw_below_drewN | apply below_drew1 | exact Below.refl _ _) | exact HB.out))) | (with_reducible refine Kd.C_alloc ?_ _) | (with_reducible refine Kd.C_drewN ?_ _) | (with_reducible refine Kd.C_drew ?_))); (case side2 => exact HC5.out); (case side3 => repeat (first | exact (Kd.C_below HR3.out (by repeat (first | (with_reducible first | exact HB.out | apply below_alloc | apply pw_below_drewN | apply below_drew1 | exact Below.refl _ _) | exact HB.out))) | (with_reducible refine Kd.C_alloc ?_ _) | (with_reducible refine Kd.C_drewN ?_ _) | (with_reducible refine Kd.C_drew ?_))); (case side4 => exact HC3.out); rintro e w' ⟨rfl, ⟨nd, rfl⟩⟩))
      go_meet
      case rel => exact ⟨_, (!t207), (by first | rfl | (simp; done) | (simp [*]; done)), H', ⟨by first | omega | exact Nat.le_refl _⟩, ⟨by repeat (first | (with_reducible first | exact HB.out | apply below_alloc | apply pw_below_drewN | apply below_drew1 | exact Below.refl _ _) | exact HB.out)⟩, ⟨BX.out⟩⟩
    · replace c9 := Bool.eq_false_iff.mpr c9
      subst c9
      have H1 : (horariumlaw03_OctetBack.j0 k a0 a1 a2 l3 l4 l5 true) = some r := by rw [if_neg (show ¬ (false = true) by decide)] at H; exact H
      clear H
      have H := H1
      clear H1
      have H' := Aside0.mk H
      clear H
      go_wp2_with (first | ((with_reducible refine gate_callee (f := 44) rfl ?_); refine goesL_ (some 33) rfl rfl Try.func44 (by kernel_rfl) rfl #[.slice A4 l4.length c4, .string a2, .slice A3 l3.length c3] rfl (by (try simp only [List.map_toArray, List.map_cons, List.map_nil]); first | done | rfl | (simp only [List.length_drop, List.length_take]; rfl)) ?_; (with_reducible refine (horariumlaw03_short.calls _ _ l4 a2 _ _ l3 false _ ?side1 ?side2 ?side3 ?side4 A8.out).mono ?_); (case side1 => repeat (first | exact (Kd.C_below HR4.out HB.out) | (with_reducible refine Kd.C_alloc ?_ _) | (with_reducible refine Kd.C_drewN ?_ _) | (with_reducible refine Kd.C_drew ?_))); (case side2 => exact HC4.out); (case side3 => repeat (first | exact (Kd.C_below HR3.out HB.out) | (with_reducible refine Kd.C_alloc ?_ _) | (with_reducible refine Kd.C_drewN ?_ _) | (with_reducible refine Kd.C_drew ?_))); (case side4 => exact HC3.out); rintro e w' ⟨rfl, ⟨nd, rfl⟩⟩; refine ⟨_, rfl, ?_⟩))
      go_meet
      case rel => exact ⟨_, (true), (by first | rfl | (simp; done) | (simp [*]; done)), H', ⟨by first | omega | exact Nat.le_refl _⟩, ⟨by repeat (first | (with_reducible first | exact HB.out | apply below_alloc | apply pw_below_drewN | apply below_drew1 | exact Below.refl _ _) | exact HB.out)⟩, ⟨BX.out⟩⟩
  case rest =>
    clear HC7
    try clear c1
    try clear p2
    try clear c3
    try clear c4
    try clear c5
    try clear c9
    clear BX hcz0 hcz1
    obtain ⟨kq, x42_6, rfl, HA, HJ6, HB, BX⟩ := hcut
    have hcz0 := (blk_cell BX.out 0).trans (show _ = some (Value.slice A4 l4.length c4) from rfl)
    cases kq with
    | zero => exact absurd HA.out (by simp [horariumlaw03_OctetBack.j0])
    | succ kj6 =>
      have H := HA.out
      clear HA
      simp only [horariumlaw03_OctetBack.j0] at H
      by_cases c11 : x42_6 = true
      · subst c11
        have H1 : ((horariumlaw03_heads.f kj6).bind fun t208 => (some t208)) = some r := by rw [if_pos rfl] at H; exact H
        clear H
        have H := H1
        clear H1
        replace H := Option.bind_eq_some_iff.mp H
        obtain ⟨t208, A120, H⟩ := H
        replace H : (some t208) = some r := H
        have A12 := Aside0.mk A120
        clear A120
        obtain rfl := Option.some.inj H
        go_wp2_with (first | ((with_reducible refine gate_callee (f := 45) rfl ?_); refine goesL_ (some 43) rfl rfl Try.func45 (by kernel_rfl) rfl #[] rfl (by (try simp only [List.map_toArray, List.map_cons, List.map_nil]); first | done | rfl | (simp only [List.length_drop, List.length_take]; rfl)) ?_; (with_reducible refine (horariumlaw03_heads.calls kj6  t208 _ A12.out).mono ?_); rintro e w13 ⟨rfl, hb⟩; refine ⟨_, rfl, ?_⟩; have n0_ := Aside0.mk (below_step (by repeat (first | (with_reducible first | exact HB.out | apply below_alloc | apply pw_below_drewN | apply below_drew1 | exact Below.refl _ _) | exact HB.out)) hb); clear HB; have HB := n0_; clear n0_; (try clear hb); (try clear hb2); (try clear hk); (try clear hi)))
        go_ret
        exact ⟨by first | rfl | (simp [errW_none, errW_some] <;> rfl) | (simp [*, errW_none, errW_some] <;> rfl), by repeat (first | (with_reducible first | exact HB.out | apply below_alloc | apply pw_below_drewN | apply below_drew1 | exact Below.refl _ _) | exact HB.out)⟩
      · replace c11 := Bool.eq_false_iff.mpr c11
        subst c11
        have H1 : ((octet_Put.f kj6 a0).bind fun t209 => ((octet_PutInt.f kj6 a1).bind fun t212 => ((octet_PutText.f kj6 a2).bind fun t215 => ((octet_PutList.f kj6 l3).bind fun t218 => ((horariumlaw03_OctetBack_1.f t209 l4 l5).bind fun t221 => ((octet_Take.f kj6 t221 (l4.length : Int)).bind fun bt224 => ((horariumlaw03_OctetBack_1.f t212 l4 l5).bind fun t227 => ((octet_TakeInt.f kj6 t227 (l4.length : Int)).bind fun bt230 => ((horariumlaw03_OctetBack_1.f t215 l4 l5).bind fun t233 => ((octet_TakeText.f kj6 t233 (l4.length : Int) (a2.size : Int)).bind fun bt236 => ((horariumlaw03_OctetBack_1.f t218 l4 l5).bind fun t239 => ((octet_TakeList.f kj6 t239 (l4.length : Int) (l3.length : Int)).bind fun bt242 => (if bt224.1 = a0 then (if bt224.2.1 = (wrap64 ((l4.length : Int) + (t209.length : Int))) then (if bt224.2.2 = 0 then (if bt230.1 = a1 then (if bt230.2.1 = (wrap64 ((l4.length : Int) + (t212.length : Int))) then (horariumlaw03_OctetBack.j1 kj6 a2 l3 (l4.length : Int) t215 t218 bt236.1 bt236.2.1 bt236.2.2 bt242.1 bt242.2.1 bt242.2.2 (bt230.2.2 != 0)) else (horariumlaw03_OctetBack.j1 kj6 a2 l3 (l4.length : Int) t215 t218 bt236.1 bt236.2.1 bt236.2.2 bt242.1 bt242.2.1 bt242.2.2 true)) else (horariumlaw03_OctetBack.j1 kj6 a2 l3 (l4.length : Int) t215 t218 bt236.1 bt236.2.1 bt236.2.2 bt242.1 bt242.2.1 bt242.2.2 true)) else (horariumlaw03_OctetBack.j1 kj6 a2 l3 (l4.length : Int) t215 t218 bt236.1 bt236.2.1 bt236.2.2 bt242.1 bt242.2.1 bt242.2.2 true)) else (horariumlaw03_OctetBack.j1 kj6 a2 l3 (l4.length : Int) t215 t218 bt236.1 bt236.2.1 bt236.2.2 bt242.1 bt242.2.1 bt242.2.2 true)) else (horariumlaw03_OctetBack.j1 kj6 a2 l3 (l4.length : Int) t215 t218 bt236.1 bt236.2.1 bt236.2.2 bt242.1 bt242.2.1 bt242.2.2 true)))))))))))))) = some r := by rw [if_neg (show ¬ (false = true) by decide)] at H; exact H
        clear H
        have H := H1
        clear H1
        replace H := Option.bind_eq_some_iff.mp H
        obtain ⟨t209, A140, H⟩ := H
        replace H : ((octet_PutInt.f kj6 a1).bind fun t212 => ((octet_PutText.f kj6 a2).bind fun t215 => ((octet_PutList.f kj6 l3).bind fun t218 => ((horariumlaw03_OctetBack_1.f t209 l4 l5).bind fun t221 => ((octet_Take.f kj6 t221 (l4.length : Int)).bind fun bt224 => ((horariumlaw03_OctetBack_1.f t212 l4 l5).bind fun t227 => ((octet_TakeInt.f kj6 t227 (l4.length : Int)).bind fun bt230 => ((horariumlaw03_OctetBack_1.f t215 l4 l5).bind fun t233 => ((octet_TakeText.f kj6 t233 (l4.length : Int) (a2.size : Int)).bind fun bt236 => ((horariumlaw03_OctetBack_1.f t218 l4 l5).bind fun t239 => ((octet_TakeList.f kj6 t239 (l4.length : Int) (l3.length : Int)).bind fun bt242 => (if bt224.1 = a0 then (if bt224.2.1 = (wrap64 ((l4.length : Int) + (t209.length : Int))) then (if bt224.2.2 = 0 then (if bt230.1 = a1 then (if bt230.2.1 = (wrap64 ((l4.length : Int) + (t212.length : Int))) then (horariumlaw03_OctetBack.j1 kj6 a2 l3 (l4.length : Int) t215 t218 bt236.1 bt236.2.1 bt236.2.2 bt242.1 bt242.2.1 bt242.2.2 (bt230.2.2 != 0)) else (horariumlaw03_OctetBack.j1 kj6 a2 l3 (l4.length : Int) t215 t218 bt236.1 bt236.2.1 bt236.2.2 bt242.1 bt242.2.1 bt242.2.2 true)) else (horariumlaw03_OctetBack.j1 kj6 a2 l3 (l4.length : Int) t215 t218 bt236.1 bt236.2.1 bt236.2.2 bt242.1 bt242.2.1 bt242.2.2 true)) else (horariumlaw03_OctetBack.j1 kj6 a2 l3 (l4.length : Int) t215 t218 bt236.1 bt236.2.1 bt236.2.2 bt242.1 bt242.2.1 bt242.2.2 true)) else (horariumlaw03_OctetBack.j1 kj6 a2 l3 (l4.length : Int) t215 t218 bt236.1 bt236.2.1 bt236.2.2 bt242.1 bt242.2.1 bt242.2.2 true)) else (horariumlaw03_OctetBack.j1 kj6 a2 l3 (l4.length : Int) t215 t218 bt236.1 bt236.2.1 bt236.2.2 bt242.1 bt242.2.1 bt242.2.2 true))))))))))))) = some r := H
        have A14 := Aside0.mk A140
        clear A140
        replace H := Option.bind_eq_some_iff.mp H
        obtain ⟨t212, A150, H⟩ := H
        replace H : ((octet_PutText.f kj6 a2).bind fun t215 => ((octet_PutList.f kj6 l3).bind fun t218 => ((horariumlaw03_OctetBack_1.f t209 l4 l5).bind fun t221 => ((octet_Take.f kj6 t221 (l4.length : Int)).bind fun bt224 => ((horariumlaw03_OctetBack_1.f t212 l4 l5).bind fun t227 => ((octet_TakeInt.f kj6 t227 (l4.length : Int)).bind fun bt230 => ((horariumlaw03_OctetBack_1.f t215 l4 l5).bind fun t233 => ((octet_TakeText.f kj6 t233 (l4.length : Int) (a2.size : Int)).bind fun bt236 => ((horariumlaw03_OctetBack_1.f t218 l4 l5).bind fun t239 => ((octet_TakeList.f kj6 t239 (l4.length : Int) (l3.length : Int)).bind fun bt242 => (if bt224.1 = a0 then (if bt224.2.1 = (wrap64 ((l4.length : Int) + (t209.length : Int))) then (if bt224.2.2 = 0 then (if bt230.1 = a1 then (if bt230.2.1 = (wrap64 ((l4.length : Int) + (t212.length : Int))) then (horariumlaw03_OctetBack.j1 kj6 a2 l3 (l4.length : Int) t215 t218 bt236.1 bt236.2.1 bt236.2.2 bt242.1 bt242.2.1 bt242.2.2 (bt230.2.2 != 0)) else (horariumlaw03_OctetBack.j1 kj6 a2 l3 (l4.length : Int) t215 t218 bt236.1 bt236.2.1 bt236.2.2 bt242.1 bt242.2.1 bt242.2.2 true)) else (horariumlaw03_OctetBack.j1 kj6 a2 l3 (l4.length : Int) t215 t218 bt236.1 bt236.2.1 bt236.2.2 bt242.1 bt242.2.1 bt242.2.2 true)) else (horariumlaw03_OctetBack.j1 kj6 a2 l3 (l4.length : Int) t215 t218 bt236.1 bt236.2.1 bt236.2.2 bt242.1 bt242.2.1 bt242.2.2 true)) else (horariumlaw03_OctetBack.j1 kj6 a2 l3 (l4.length : Int) t215 t218 bt236.1 bt236.2.1 bt236.2.2 bt242.1 bt242.2.1 bt242.2.2 true)) else (horariumlaw03_OctetBack.j1 kj6 a2 l3 (l4.length : Int) t215 t218 bt236.1 bt236.2.1 bt236.2.2 bt242.1 bt242.2.1 bt242.2.2 true)))))))))))) = some r := H
        have A15 := Aside0.mk A150
        clear A150
        replace H := Option.bind_eq_some_iff.mp H
        obtain ⟨t215, A160, H⟩ := H
        replace H : ((octet_PutList.f kj6 l3).bind fun t218 => ((horariumlaw03_OctetBack_1.f t209 l4 l5).bind fun t221 => ((octet_Take.f kj6 t221 (l4.length : Int)).bind fun bt224 => ((horariumlaw03_OctetBack_1.f t212 l4 l5).bind fun t227 => ((octet_TakeInt.f kj6 t227 (l4.length : Int)).bind fun bt230 => ((horariumlaw03_OctetBack_1.f t215 l4 l5).bind fun t233 => ((octet_TakeText.f kj6 t233 (l4.length : Int) (a2.size : Int)).bind fun bt236 => ((horariumlaw03_OctetBack_1.f t218 l4 l5).bind fun t239 => ((octet_TakeList.f kj6 t239 (l4.length : Int) (l3.length : Int)).bind fun bt242 => (if bt224.1 = a0 then (if bt224.2.1 = (wrap64 ((l4.length : Int) + (t209.length : Int))) then (if bt224.2.2 = 0 then (if bt230.1 = a1 then (if bt230.2.1 = (wrap64 ((l4.length : Int) + (t212.length : Int))) then (horariumlaw03_OctetBack.j1 kj6 a2 l3 (l4.length : Int) t215 t218 bt236.1 bt236.2.1 bt236.2.2 bt242.1 bt242.2.1 bt242.2.2 (bt230.2.2 != 0)) else (horariumlaw03_OctetBack.j1 kj6 a2 l3 (l4.length : Int) t215 t218 bt236.1 bt236.2.1 bt236.2.2 bt242.1 bt242.2.1 bt242.2.2 true)) else (horariumlaw03_OctetBack.j1 kj6 a2 l3 (l4.length : Int) t215 t218 bt236.1 bt236.2.1 bt236.2.2 bt242.1 bt242.2.1 bt242.2.2 true)) else (horariumlaw03_OctetBack.j1 kj6 a2 l3 (l4.length : Int) t215 t218 bt236.1 bt236.2.1 bt236.2.2 bt242.1 bt242.2.1 bt242.2.2 true)) else (horariumlaw03_OctetBack.j1 kj6 a2 l3 (l4.length : Int) t215 t218 bt236.1 bt236.2.1 bt236.2.2 bt242.1 bt242.2.1 bt242.2.2 true)) else (horariumlaw03_OctetBack.j1 kj6 a2 l3 (l4.length : Int) t215 t218 bt236.1 bt236.2.1 bt236.2.2 bt242.1 bt242.2.1 bt242.2.2 true))))))))))) = some r := H
        have A16 := Aside0.mk A160
        clear A160
        replace H := Option.bind_eq_some_iff.mp H
        obtain ⟨t218, A170, H⟩ := H
        replace H : ((horariumlaw03_OctetBack_1.f t209 l4 l5).bind fun t221 => ((octet_Take.f kj6 t221 (l4.length : Int)).bind fun bt224 => ((horariumlaw03_OctetBack_1.f t212 l4 l5).bind fun t227 => ((octet_TakeInt.f kj6 t227 (l4.length : Int)).bind fun bt230 => ((horariumlaw03_OctetBack_1.f t215 l4 l5).bind fun t233 => ((octet_TakeText.f kj6 t233 (l4.length : Int) (a2.size : Int)).bind fun bt236 => ((horariumlaw03_OctetBack_1.f t218 l4 l5).bind fun t239 => ((octet_TakeList.f kj6 t239 (l4.length : Int) (l3.length : Int)).bind fun bt242 => (if bt224.1 = a0 then (if bt224.2.1 = (wrap64 ((l4.length : Int) + (t209.length : Int))) then (if bt224.2.2 = 0 then (if bt230.1 = a1 then (if bt230.2.1 = (wrap64 ((l4.length : Int) + (t212.length : Int))) then (horariumlaw03_OctetBack.j1 kj6 a2 l3 (l4.length : Int) t215 t218 bt236.1 bt236.2.1 bt236.2.2 bt242.1 bt242.2.1 bt242.2.2 (bt230.2.2 != 0)) else (horariumlaw03_OctetBack.j1 kj6 a2 l3 (l4.length : Int) t215 t218 bt236.1 bt236.2.1 bt236.2.2 bt242.1 bt242.2.1 bt242.2.2 true)) else (horariumlaw03_OctetBack.j1 kj6 a2 l3 (l4.length : Int) t215 t218 bt236.1 bt236.2.1 bt236.2.2 bt242.1 bt242.2.1 bt242.2.2 true)) else (horariumlaw03_OctetBack.j1 kj6 a2 l3 (l4.length : Int) t215 t218 bt236.1 bt236.2.1 bt236.2.2 bt242.1 bt242.2.1 bt242.2.2 true)) else (horariumlaw03_OctetBack.j1 kj6 a2 l3 (l4.length : Int) t215 t218 bt236.1 bt236.2.1 bt236.2.2 bt242.1 bt242.2.1 bt242.2.2 true)) else (horariumlaw03_OctetBack.j1 kj6 a2 l3 (l4.length : Int) t215 t218 bt236.1 bt236.2.1 bt236.2.2 bt242.1 bt242.2.1 bt242.2.2 true)))))))))) = some r := H
        have A17 := Aside0.mk A170
        clear A170
        replace H := Option.bind_eq_some_iff.mp H
        obtain ⟨t221, A180, H⟩ := H
        replace H : ((octet_Take.f kj6 t221 (l4.length : Int)).bind fun bt224 => ((horariumlaw03_OctetBack_1.f t212 l4 l5).bind fun t227 => ((octet_TakeInt.f kj6 t227 (l4.length : Int)).bind fun bt230 => ((horariumlaw03_OctetBack_1.f t215 l4 l5).bind fun t233 => ((octet_TakeText.f kj6 t233 (l4.length : Int) (a2.size : Int)).bind fun bt236 => ((horariumlaw03_OctetBack_1.f t218 l4 l5).bind fun t239 => ((octet_TakeList.f kj6 t239 (l4.length : Int) (l3.length : Int)).bind fun bt242 => (if bt224.1 = a0 then (if bt224.2.1 = (wrap64 ((l4.length : Int) + (t209.length : Int))) then (if bt224.2.2 = 0 then (if bt230.1 = a1 then (if bt230.2.1 = (wrap64 ((l4.length : Int) + (t212.length : Int))) then (horariumlaw03_OctetBack.j1 kj6 a2 l3 (l4.length : Int) t215 t218 bt236.1 bt236.2.1 bt236.2.2 bt242.1 bt242.2.1 bt242.2.2 (bt230.2.2 != 0)) else (horariumlaw03_OctetBack.j1 kj6 a2 l3 (l4.length : Int) t215 t218 bt236.1 bt236.2.1 bt236.2.2 bt242.1 bt242.2.1 bt242.2.2 true)) else (horariumlaw03_OctetBack.j1 kj6 a2 l3 (l4.length : Int) t215 t218 bt236.1 bt236.2.1 bt236.2.2 bt242.1 bt242.2.1 bt242.2.2 true)) else (horariumlaw03_OctetBack.j1 kj6 a2 l3 (l4.length : Int) t215 t218 bt236.1 bt236.2.1 bt236.2.2 bt242.1 bt242.2.1 bt242.2.2 true)) else (horariumlaw03_OctetBack.j1 kj6 a2 l3 (l4.length : Int) t215 t218 bt236.1 bt236.2.1 bt236.2.2 bt242.1 bt242.2.1 bt242.2.2 true)) else (horariumlaw03_OctetBack.j1 kj6 a2 l3 (l4.length : Int) t215 t218 bt236.1 bt236.2.1 bt236.2.2 bt242.1 bt242.2.1 bt242.2.2 true))))))))) = some r := H
        have A18 := Aside0.mk A180
        clear A180
        replace H := Option.bind_eq_some_iff.mp H
        obtain ⟨⟨t224, t225, t226⟩, A190, H⟩ := H
        replace H : ((horariumlaw03_OctetBack_1.f t212 l4 l5).bind fun t227 => ((octet_TakeInt.f kj6 t227 (l4.length : Int)).bind fun bt230 => ((horariumlaw03_OctetBack_1.f t215 l4 l5).bind fun t233 => ((octet_TakeText.f kj6 t233 (l4.length : Int) (a2.size : Int)).bind fun bt236 => ((horariumlaw03_OctetBack_1.f t218 l4 l5).bind fun t239 => ((octet_TakeList.f kj6 t239 (l4.length : Int) (l3.length : Int)).bind fun bt242 => (if t224 = a0 then (if t225 = (wrap64 ((l4.length : Int) + (t209.length : Int))) then (if t226 = 0 then (if bt230.1 = a1 then (if bt230.2.1 = (wrap64 ((l4.length : Int) + (t212.length : Int))) then (horariumlaw03_OctetBack.j1 kj6 a2 l3 (l4.length : Int) t215 t218 bt236.1 bt236.2.1 bt236.2.2 bt242.1 bt242.2.1 bt242.2.2 (bt230.2.2 != 0)) else (horariumlaw03_OctetBack.j1 kj6 a2 l3 (l4.length : Int) t215 t218 bt236.1 bt236.2.1 bt236.2.2 bt242.1 bt242.2.1 bt242.2.2 true)) else (horariumlaw03_OctetBack.j1 kj6 a2 l3 (l4.length : Int) t215 t218 bt236.1 bt236.2.1 bt236.2.2 bt242.1 bt242.2.1 bt242.2.2 true)) else (horariumlaw03_OctetBack.j1 kj6 a2 l3 (l4.length : Int) t215 t218 bt236.1 bt236.2.1 bt236.2.2 bt242.1 bt242.2.1 bt242.2.2 true)) else (horariumlaw03_OctetBack.j1 kj6 a2 l3 (l4.length : Int) t215 t218 bt236.1 bt236.2.1 bt236.2.2 bt242.1 bt242.2.1 bt242.2.2 true)) else (horariumlaw03_OctetBack.j1 kj6 a2 l3 (l4.length : Int) t215 t218 bt236.1 bt236.2.1 bt236.2.2 bt242.1 bt242.2.1 bt242.2.2 true)))))))) = some r := H
        have A19 := Aside0.mk A190
        clear A190
        replace H := Option.bind_eq_some_iff.mp H
        obtain ⟨t227, A200, H⟩ := H
        replace H : ((octet_TakeInt.f kj6 t227 (l4.length : Int)).bind fun bt230 => ((horariumlaw03_OctetBack_1.f t215 l4 l5).bind fun t233 => ((octet_TakeText.f kj6 t233 (l4.length : Int) (a2.size : Int)).bind fun bt236 => ((horariumlaw03_OctetBack_1.f t218 l4 l5).bind fun t239 => ((octet_TakeList.f kj6 t239 (l4.length : Int) (l3.length : Int)).bind fun bt242 => (if t224 = a0 then (if t225 = (wrap64 ((l4.length : Int) + (t209.length : Int))) then (if t226 = 0 then (if bt230.1 = a1 then (if bt230.2.1 = (wrap64 ((l4.length : Int) + (t212.length : Int))) then (horariumlaw03_OctetBack.j1 kj6 a2 l3 (l4.length : Int) t215 t218 bt236.1 bt236.2.1 bt236.2.2 bt242.1 bt242.2.1 bt242.2.2 (bt230.2.2 != 0)) else (horariumlaw03_OctetBack.j1 kj6 a2 l3 (l4.length : Int) t215 t218 bt236.1 bt236.2.1 bt236.2.2 bt242.1 bt242.2.1 bt242.2.2 true)) else (horariumlaw03_OctetBack.j1 kj6 a2 l3 (l4.length : Int) t215 t218 bt236.1 bt236.2.1 bt236.2.2 bt242.1 bt242.2.1 bt242.2.2 true)) else (horariumlaw03_OctetBack.j1 kj6 a2 l3 (l4.length : Int) t215 t218 bt236.1 bt236.2.1 bt236.2.2 bt242.1 bt242.2.1 bt242.2.2 true)) else (horariumlaw03_OctetBack.j1 kj6 a2 l3 (l4.length : Int) t215 t218 bt236.1 bt236.2.1 bt236.2.2 bt242.1 bt242.2.1 bt242.2.2 true)) else (horariumlaw03_OctetBack.j1 kj6 a2 l3 (l4.length : Int) t215 t218 bt236.1 bt236.2.1 bt236.2.2 bt242.1 bt242.2.1 bt242.2.2 true))))))) = some r := H
        have A20 := Aside0.mk A200
        clear A200
        replace H := Option.bind_eq_some_iff.mp H
        obtain ⟨⟨t230, t231, t232⟩, A210, H⟩ := H
        replace H : ((horariumlaw03_OctetBack_1.f t215 l4 l5).bind fun t233 => ((octet_TakeText.f kj6 t233 (l4.length : Int) (a2.size : Int)).bind fun bt236 => ((horariumlaw03_OctetBack_1.f t218 l4 l5).bind fun t239 => ((octet_TakeList.f kj6 t239 (l4.length : Int) (l3.length : Int)).bind fun bt242 => (if t224 = a0 then (if t225 = (wrap64 ((l4.length : Int) + (t209.length : Int))) then (if t226 = 0 then (if t230 = a1 then (if t231 = (wrap64 ((l4.length : Int) + (t212.length : Int))) then (horariumlaw03_OctetBack.j1 kj6 a2 l3 (l4.length : Int) t215 t218 bt236.1 bt236.2.1 bt236.2.2 bt242.1 bt242.2.1 bt242.2.2 (t232 != 0)) else (horariumlaw03_OctetBack.j1 kj6 a2 l3 (l4.length : Int) t215 t218 bt236.1 bt236.2.1 bt236.2.2 bt242.1 bt242.2.1 bt242.2.2 true)) else (horariumlaw03_OctetBack.j1 kj6 a2 l3 (l4.length : Int) t215 t218 bt236.1 bt236.2.1 bt236.2.2 bt242.1 bt242.2.1 bt242.2.2 true)) else (horariumlaw03_OctetBack.j1 kj6 a2 l3 (l4.length : Int) t215 t218 bt236.1 bt236.2.1 bt236.2.2 bt242.1 bt242.2.1 bt242.2.2 true)) else (horariumlaw03_OctetBack.j1 kj6 a2 l3 (l4.length : Int) t215 t218 bt236.1 bt236.2.1 bt236.2.2 bt242.1 bt242.2.1 bt242.2.2 true)) else (horariumlaw03_OctetBack.j1 kj6 a2 l3 (l4.length : Int) t215 t218 bt236.1 bt236.2.1 bt236.2.2 bt242.1 bt242.2.1 bt242.2.2 true)))))) = some r := H
        have A21 := Aside0.mk A210
        clear A210
        replace H := Option.bind_eq_some_iff.mp H
        obtain ⟨t233, A220, H⟩ := H
        replace H : ((octet_TakeText.f kj6 t233 (l4.length : Int) (a2.size : Int)).bind fun bt236 => ((horariumlaw03_OctetBack_1.f t218 l4 l5).bind fun t239 => ((octet_TakeList.f kj6 t239 (l4.length : Int) (l3.length : Int)).bind fun bt242 => (if t224 = a0 then (if t225 = (wrap64 ((l4.length : Int) + (t209.length : Int))) then (if t226 = 0 then (if t230 = a1 then (if t231 = (wrap64 ((l4.length : Int) + (t212.length : Int))) then (horariumlaw03_OctetBack.j1 kj6 a2 l3 (l4.length : Int) t215 t218 bt236.1 bt236.2.1 bt236.2.2 bt242.1 bt242.2.1 bt242.2.2 (t232 != 0)) else (horariumlaw03_OctetBack.j1 kj6 a2 l3 (l4.length : Int) t215 t218 bt236.1 bt236.2.1 bt236.2.2 bt242.1 bt242.2.1 bt242.2.2 true)) else (horariumlaw03_OctetBack.j1 kj6 a2 l3 (l4.length : Int) t215 t218 bt236.1 bt236.2.1 bt236.2.2 bt242.1 bt242.2.1 bt242.2.2 true)) else (horariumlaw03_OctetBack.j1 kj6 a2 l3 (l4.length : Int) t215 t218 bt236.1 bt236.2.1 bt236.2.2 bt242.1 bt242.2.1 bt242.2.2 true)) else (horariumlaw03_OctetBack.j1 kj6 a2 l3 (l4.length : Int) t215 t218 bt236.1 bt236.2.1 bt236.2.2 bt242.1 bt242.2.1 bt242.2.2 true)) else (horariumlaw03_OctetBack.j1 kj6 a2 l3 (l4.length : Int) t215 t218 bt236.1 bt236.2.1 bt236.2.2 bt242.1 bt242.2.1 bt242.2.2 true))))) = some r := H
        have A22 := Aside0.mk A220
        clear A220
        replace H := Option.bind_eq_some_iff.mp H
        obtain ⟨⟨t236, t237, t238⟩, A230, H⟩ := H
        replace H : ((horariumlaw03_OctetBack_1.f t218 l4 l5).bind fun t239 => ((octet_TakeList.f kj6 t239 (l4.length : Int) (l3.length : Int)).bind fun bt242 => (if t224 = a0 then (if t225 = (wrap64 ((l4.length : Int) + (t209.length : Int))) then (if t226 = 0 then (if t230 = a1 then (if t231 = (wrap64 ((l4.length : Int) + (t212.length : Int))) then (horariumlaw03_OctetBack.j1 kj6 a2 l3 (l4.length : Int) t215 t218 t236 t237 t238 bt242.1 bt242.2.1 bt242.2.2 (t232 != 0)) else (horariumlaw03_OctetBack.j1 kj6 a2 l3 (l4.length : Int) t215 t218 t236 t237 t238 bt242.1 bt242.2.1 bt242.2.2 true)) else (horariumlaw03_OctetBack.j1 kj6 a2 l3 (l4.length : Int) t215 t218 t236 t237 t238 bt242.1 bt242.2.1 bt242.2.2 true)) else (horariumlaw03_OctetBack.j1 kj6 a2 l3 (l4.length : Int) t215 t218 t236 t237 t238 bt242.1 bt242.2.1 bt242.2.2 true)) else (horariumlaw03_OctetBack.j1 kj6 a2 l3 (l4.length : Int) t215 t218 t236 t237 t238 bt242.1 bt242.2.1 bt242.2.2 true)) else (horariumlaw03_OctetBack.j1 kj6 a2 l3 (l4.length : Int) t215 t218 t236 t237 t238 bt242.1 bt242.2.1 bt242.2.2 true)))) = some r := H
        have A23 := Aside0.mk A230
        clear A230
        replace H := Option.bind_eq_some_iff.mp H
        obtain ⟨t239, A240, H⟩ := H
        replace H : ((octet_TakeList.f kj6 t239 (l4.length : Int) (l3.length : Int)).bind fun bt242 => (if t224 = a0 then (if t225 = (wrap64 ((l4.length : Int) + (t209.length : Int))) then (if t226 = 0 then (if t230 = a1 then (if t231 = (wrap64 ((l4.length : Int) + (t212.length : Int))) then (horariumlaw03_OctetBack.j1 kj6 a2 l3 (l4.length : Int) t215 t218 t236 t237 t238 bt242.1 bt242.2.1 bt242.2.2 (t232 != 0)) else (horariumlaw03_OctetBack.j1 kj6 a2 l3 (l4.length : Int) t215 t218 t236 t237 t238 bt242.1 bt242.2.1 bt242.2.2 true)) else (horariumlaw03_OctetBack.j1 kj6 a2 l3 (l4.length : Int) t215 t218 t236 t237 t238 bt242.1 bt242.2.1 bt242.2.2 true)) else (horariumlaw03_OctetBack.j1 kj6 a2 l3 (l4.length : Int) t215 t218 t236 t237 t238 bt242.1 bt242.2.1 bt242.2.2 true)) else (horariumlaw03_OctetBack.j1 kj6 a2 l3 (l4.length : Int) t215 t218 t236 t237 t238 bt242.1 bt242.2.1 bt242.2.2 true)) else (horariumlaw03_OctetBack.j1 kj6 a2 l3 (l4.length : Int) t215 t218 t236 t237 t238 bt242.1 bt242.2.1 bt242.2.2 true))) = some r := H
        have A24 := Aside0.mk A240
        clear A240
        replace H := Option.bind_eq_some_iff.mp H
        obtain ⟨⟨t242, t243, t244⟩, A250, H⟩ := H
        replace H : (if t224 = a0 then (if t225 = (wrap64 ((l4.length : Int) + (t209.length : Int))) then (if t226 = 0 then (if t230 = a1 then (if t231 = (wrap64 ((l4.length : Int) + (t212.length : Int))) then (horariumlaw03_OctetBack.j1 kj6 a2 l3 (l4.length : Int) t215 t218 t236 t237 t238 t242 t243 t244 (t232 != 0)) else (horariumlaw03_OctetBack.j1 kj6 a2 l3 (l4.length : Int) t215 t218 t236 t237 t238 t242 t243 t244 true)) else (horariumlaw03_OctetBack.j1 kj6 a2 l3 (l4.length : Int) t215 t218 t236 t237 t238 t242 t243 t244 true)) else (horariumlaw03_OctetBack.j1 kj6 a2 l3 (l4.length : Int) t215 t218 t236 t237 t238 t242 t243 t244 true)) else (horariumlaw03_OctetBack.j1 kj6 a2 l3 (l4.length : Int) t215 t218 t236 t237 t238 t242 t243 t244 true)) else (horariumlaw03_OctetBack.j1 kj6 a2 l3 (l4.length : Int) t215 t218 t236 t237 t238 t242 t243 t244 true)) = some r := H
        have A25 := Aside0.mk A250
        clear A250
        have HC26 := Aside0.mk H
        clear H
        go_upto_region 10 with (first | ((with_reducible refine gate_callee (f := 47) rfl ?_); refine goesL_ (some 49) rfl rfl Try.func47 (by kernel_rfl) rfl #[.int .u64 a0] rfl (by (try simp only [List.map_toArray, List.map_cons, List.map_nil]); first | done | rfl | (simp only [List.length_drop, List.length_take]; rfl)) ?_; (with_reducible refine (octet_Put.calls kj6 a0 t209 _ A14.out).mono ?_); rintro e w27 ⟨v210, rfl, ho0, hb⟩; refine ⟨_, rfl, ?_⟩; have nb_ := Aside0.mk ((hb.block _ (blk_lt BX.out)).trans BX.out); clear BX; have BX := nb_; clear nb_; have n0_ := Aside0.mk (Kd.R_lower ho0 (below_size (by repeat (first | (with_reducible first | exact HB.out | apply below_alloc | apply pw_below_drewN | apply below_drew1 | exact Below.refl _ _) | exact HB.out)))); have n1_ := Aside0.mk (below_step (by repeat (first | (with_reducible first | exact HB.out | apply below_alloc | apply pw_below_drewN | apply below_drew1 | exact Below.refl _ _) | exact HB.out)) hb); clear HB; have HO211 := n0_; have HB := n1_; clear n0_ n1_; (try clear hb); (try clear hb2); (try clear hk); (try clear hi); (try clear ho0)) | ((with_reducible refine gate_callee (f := 49) rfl ?_); refine goesL_ (some 51) rfl rfl Try.func49 (by kernel_rfl) rfl #[.int .i64 a1] rfl (by (try simp only [List.map_toArray, List.map_cons, List.map_nil]); first | done | rfl | (simp only [List.length_drop, List.length_take]; rfl)) ?_; (with_reducible refine (octet_PutInt.calls kj6 a1 t212 _ A15.out).mono ?_); rintro e w28 ⟨v213, rfl, ho0, hb⟩; refine ⟨_, rfl, ?_⟩; have nb_ := Aside0.mk ((hb.block _ (blk_lt BX.out)).trans BX.out); clear BX; have BX := nb_; clear nb_; have n0_ := Aside0.mk (Kd.R_elder' (by (with_reducible repeat (first | apply Kd.R_alloc | apply Kd.R_drewN | apply Kd.R_drew)); exact HO211.out) (Kd.R_base ho0) hb); have n1_ := Aside0.mk (Kd.R_lower (Kd.R_new' ho0 (Kd.R_lt (by (with_reducible repeat (first | apply Kd.R_alloc | apply Kd.R_drewN | apply Kd.R_drew)); exact HO211.out))) (below_size (by repeat (first | (with_reducible first | exact HB.out | apply below_alloc | apply pw_below_drewN | apply below_drew1 | exact Below.refl _ _) | exact HB.out)))); have n2_ := Aside0.mk (below_step (by repeat (first | (with_reducible first | exact HB.out | apply below_alloc | apply pw_below_drewN | apply below_drew1 | exact Below.refl _ _) | exact HB.out)) hb); clear HO211; clear HB; have HO211 := n0_; have HO214 := n1_; have HB := n2_; clear n0_ n1_ n2_; (try clear hb); (try clear hb2); (try clear hk); (try clear hi); (try clear ho0)) | ((with_reducible refine gate_callee (f := 51) rfl ?_); refine goesL_ (some 53) rfl rfl Try.func51 (by kernel_rfl) rfl #[.string a2] rfl (by (try simp only [List.map_toArray, List.map_cons, List.map_nil]); first | done | rfl | (simp only [List.length_drop, List.length_take]; rfl)) ?_; (with_reducible refine (octet_PutText.calls kj6 a2 t215 _ A16.out).mono ?_); rintro e w29 ⟨v216, rfl, ho0, hb⟩; refine ⟨_, rfl, ?_⟩; have nb_ := Aside0.mk ((hb.block _ (blk_lt BX.out)).trans BX.out); clear BX; have BX := nb_; clear nb_; have n0_ := Aside0.mk (Kd.R_elder' (by (with_reducible repeat (first | apply Kd.R_alloc | apply Kd.R_drewN | apply Kd.R_drew)); exact HO211.out) (Kd.R_base ho0) hb); have n1_ := Aside0.mk (Kd.R_elder' (by (with_reducible repeat (first | apply Kd.R_alloc | apply Kd.R_drewN | apply Kd.R_drew)); exact HO214.out) (Kd.R_base ho0) hb); have n2_ := Aside0.mk (Kd.R_lower (Kd.R_new' (Kd.R_new' ho0 (Kd.R_lt (by (with_reducible repeat (first | apply Kd.R_alloc | apply Kd.R_drewN | apply Kd.R_drew)); exact HO211.out))) (Kd.R_lt (by (with_reducible repeat (first | apply Kd.R_alloc | apply Kd.R_drewN | apply Kd.R_drew)); exact HO214.out))) (below_size (by repeat (first | (with_reducible first | exact HB.out | apply below_alloc | apply pw_below_drewN | apply below_drew1 | exact Below.refl _ _) | exact HB.out)))); have n3_ := Aside0.mk (below_step (by repeat (first | (with_reducible first | exact HB.out | apply below_alloc | apply pw_below_drewN | apply below_drew1 | exact Below.refl _ _) | exact HB.out)) hb); clear HO211; clear HO214; clear HB; have HO211 := n0_; have HO214 := n1_; have HO217 := n2_; have HB := n3_; clear n0_ n1_ n2_ n3_; (try clear hb); (try clear hb2); (try clear hk); (try clear hi); (try clear ho0)) | ((with_reducible refine gate_callee (f := 53) rfl ?_); refine goesL_ (some 55) rfl rfl Try.func53 (by kernel_rfl) rfl #[.slice A3 l3.length c3] rfl (by (try simp only [List.map_toArray, List.map_cons, List.map_nil]); first | done | rfl | (simp only [List.length_drop, List.length_take]; rfl)) ?_; (with_reducible refine (octet_PutList.calls kj6 _ _ l3 t218 _ ?side1 ?side2 A17.out).mono ?_); (case side1 => repeat (first | exact (Kd.C_below HR3.out HB.out) | (with_reducible refine Kd.C_alloc ?_ _) | (with_reducible refine Kd.C_drewN ?_ _) | (with_reducible refine Kd.C_drew ?_))); (case side2 => exact HC3.out); rintro e w30 ⟨v219, rfl, ho0, hb⟩; refine ⟨_, rfl, ?_⟩; have nb_ := Aside0.mk ((hb.block _ (blk_lt BX.out)).trans BX.out); clear BX; have BX := nb_; clear nb_; have n0_ := Aside0.mk (Kd.R_elder' (by (with_reducible repeat (first | apply Kd.R_alloc | apply Kd.R_drewN | apply Kd.R_drew)); exact HO211.out) (Kd.R_base ho0) hb); have n1_ := Aside0.mk (Kd.R_elder' (by (with_reducible repeat (first | apply Kd.R_alloc | apply Kd.R_drewN | apply Kd.R_drew)); exact HO214.out) (Kd.R_base ho0) hb); have n2_ := Aside0.mk (Kd.R_elder' (by (with_reducible repeat (first | apply Kd.R_alloc | apply Kd.R_drewN | apply Kd.R_drew)); exact HO217.out) (Kd.R_base ho0) hb); have n3_ := Aside0.mk (Kd.R_lower (Kd.R_new' (Kd.R_new' (Kd.R_new' ho0 (Kd.R_lt (by (with_reducible repeat (first | apply Kd.R_alloc | apply Kd.R_drewN | apply Kd.R_drew)); exact HO211.out))) (Kd.R_lt (by (with_reducible repeat (first | apply Kd.R_alloc | apply Kd.R_drewN | apply Kd.R_drew)); exact HO214.out))) (Kd.R_lt (by (with_reducible repeat (first | apply Kd.R_alloc | apply Kd.R_drewN | apply Kd.R_drew)); exact HO217.out))) (below_size (by repeat (first | (with_reducible first | exact HB.out | apply below_alloc | apply pw_below_drewN | apply below_drew1 | exact Below.refl _ _) | exact HB.out)))); have n4_ := Aside0.mk (below_step (by repeat (first | (with_reducible first | exact HB.out | apply below_alloc | apply pw_below_drewN | apply below_drew1 | exact Below.refl _ _) | exact HB.out)) hb); clear HO211; clear HO214; clear HO217; clear HB; have HO211 := n0_; have HO214 := n1_; have HO217 := n2_; have HO220 := n3_; have HB := n4_; clear n0_ n1_ n2_ n3_ n4_; (try clear hb); (try clear hb2); (try clear hk); (try clear hi); (try clear ho0); obtain ⟨Ao31, co31, eo31⟩ := Kd.R_slice HO211.out; subst eo31) | ((with_reducible refine gate_dst (N := 59) rfl ?_); refine goesC_ (some 59) rfl rfl Try.func96 (by kernel_rfl) rfl #[.slice Ao31 t209.length co31, .pointer (some ⟨gb, 0, none⟩)] (cap := #[.pointer (some ⟨gb, 0, none⟩)]) rfl (by first | rfl | (simp [Act.eval])) (by first | rfl | (simp [Act.eval])) ?_; (with_reducible refine (horariumlaw03_OctetBack_1.calls gb _ _ t209 A4 c4 l4 A5 c5 l5 t221 _ ?side1 ?side2 ?side3 ?side4 ?side5 ?side6 ?side7 A18.out).mono ?_); (case side7 => exact BX.out); (case side1 => repeat (first | exact (Kd.R_reads' HO211.out).2.2 | (with_reducible refine Kd.C_alloc ?_ _) | (with_reducible refine Kd.C_drewN ?_ _) | (with_reducible refine Kd.C_drew ?_))); (case side2 => exact (Kd.R_reads' HO211.out).2.1); (case side3 => repeat (first | exact (Kd.C_below HR4.out HB.out) | (with_reducible refine Kd.C_alloc ?_ _) | (with_reducible refine Kd.C_drewN ?_ _) | (with_reducible refine Kd.C_drew ?_))); (case side4 => exact HC4.out); (case side5 => repeat (first | exact (Kd.C_below HR5.out HB.out) | (with_reducible refine Kd.C_alloc ?_ _) | (with_reducible refine Kd.C_drewN ?_ _) | (with_reducible refine Kd.C_drew ?_))); (case side6 => exact HC5.out); rintro e w32 ⟨v222, rfl, ho0, hb⟩; refine ⟨_, rfl, ?_⟩; have nb_ := Aside0.mk ((hb.block _ (blk_lt BX.out)).trans BX.out); clear BX; have BX := nb_; clear nb_; have n0_ := Aside0.mk (Kd.R_elder' (by (with_reducible repeat (first | apply Kd.R_alloc | apply Kd.R_drewN | apply Kd.R_drew)); exact HO211.out) (Kd.R_base ho0) hb); have n1_ := Aside0.mk (Kd.R_elder' (by (with_reducible repeat (first | apply Kd.R_alloc | apply Kd.R_drewN | apply Kd.R_drew)); exact HO214.out) (Kd.R_base ho0) hb); have n2_ := Aside0.mk (Kd.R_elder' (by (with_reducible repeat (first | apply Kd.R_alloc | apply Kd.R_drewN | apply Kd.R_drew)); exact HO217.out) (Kd.R_base ho0) hb); have n3_ := Aside0.mk (Kd.R_elder' (by (with_reducible repeat (first | apply Kd.R_alloc | apply Kd.R_drewN | apply Kd.R_drew)); exact HO220.out) (Kd.R_base ho0) hb); have n4_ := Aside0.mk (Kd.R_lower (Kd.R_new' (Kd.R_new' (Kd.R_new' (Kd.R_new' ho0 (Kd.R_lt (by (with_reducible repeat (first | apply Kd.R_alloc | apply Kd.R_drewN | apply Kd.R_drew)); exact HO211.out))) (Kd.R_lt (by (with_reducible repeat (first | apply Kd.R_alloc | apply Kd.R_drewN | apply Kd.R_drew)); exact HO214.out))) (Kd.R_lt (by (with_reducible repeat (first | apply Kd.R_alloc | apply Kd.R_drewN | apply Kd.R_drew)); exact HO217.out))) (Kd.R_lt (by (with_reducible repeat (first | apply Kd.R_alloc | apply Kd.R_drewN | apply Kd.R_drew)); exact HO220.out))) (below_size (by repeat (first | (with_reducible first | exact HB.out | apply below_alloc | apply pw_below_drewN | apply below_drew1 | exact Below.refl _ _) | exact HB.out)))); have n5_ := Aside0.mk (below_step (by repeat (first | (with_reducible first | exact HB.out | apply below_alloc | apply pw_below_drewN | apply below_drew1 | exact Below.refl _ _) | exact HB.out)) hb); clear HO211; clear HO214; clear HO217; clear HO220; clear HB; have HO211 := n0_; have HO214 := n1_; have HO217 := n2_; have HO220 := n3_; have HO223 := n4_; have HB := n5_; clear n0_ n1_ n2_ n3_ n4_ n5_; (try clear hb); (try clear hb2); (try clear hk); (try clear hi); (try clear ho0); obtain ⟨Ao33, co33, eo33⟩ := Kd.R_slice HO223.out; subst eo33) | ((with_reducible refine gate_callee (f := 55) rfl ?_); refine goesL_ (some 61) rfl rfl Try.func55 (by kernel_rfl) rfl #[.slice Ao33 t221.length co33, .int .i64 (l4.length : Int)] rfl (by (try simp only [List.map_toArray, List.map_cons, List.map_nil]); first | done | rfl | (simp only [List.length_drop, List.length_take]; rfl)) ?_; (with_reducible refine (octet_Take.calls kj6 _ _ t221 (l4.length : Int) t224 t225 t226 _ ?side1 ?side2 A19.out).mono ?_); (case side1 => repeat (first | exact (Kd.R_reads' HO223.out).2.2 | (with_reducible refine Kd.C_alloc ?_ _) | (with_reducible refine Kd.C_drewN ?_ _) | (with_reducible refine Kd.C_drew ?_))); (case side2 => exact (Kd.R_reads' HO223.out).2.1); rintro e w' ⟨rfl, ⟨nd, rfl⟩⟩; refine ⟨_, rfl, ?_⟩; obtain ⟨Ao34, co34, eo34⟩ := Kd.R_slice HO214.out; subst eo34) | ((with_reducible refine gate_dst (N := 68) rfl ?_); refine goesC_ (some 68) rfl rfl Try.func96 (by kernel_rfl) rfl #[.slice Ao34 t212.length co34, .pointer (some ⟨gb, 0, none⟩)] (cap := #[.pointer (some ⟨gb, 0, none⟩)]) rfl (by first | rfl | (simp [Act.eval])) (by first | rfl | (simp [Act.eval])) ?_; (with_reducible refine (horariumlaw03_OctetBack_1.calls gb _ _ t212 A4 c4 l4 A5 c5 l5 t227 _ ?side1 ?side2 ?side3 ?side4 ?side5 ?side6 ?side7 A20.out).mono ?_); (case side7 => exact BX.out); (case side1 => repeat (first | exact (Kd.R_reads' HO214.out).2.2 | (with_reducible refine Kd.C_alloc ?_ _) | (with_reducible refine Kd.C_drewN ?_ _) | (with_reducible refine Kd.C_drew ?_))); (case side2 => exact (Kd.R_reads' HO214.out).2.1); (case side3 => repeat (first | exact (Kd.C_below HR4.out (by repeat (first | (with_reducible first | exact HB.out | apply below_alloc | apply pw_below_drewN | apply below_drew1 | exact Below.refl _ _) | exact HB.out))) | (with_reducible refine Kd.C_alloc ?_ _) | (with_reducible refine Kd.C_drewN ?_ _) | (with_reducible refine Kd.C_drew ?_))); (case side4 => exact HC4.out); (case side5 => repeat (first | exact (Kd.C_below HR5.out (by repeat (first | (with_reducible first | exact HB.out | apply below_alloc | apply pw_below_drewN | apply below_drew1 | exact Below.refl _ _) | exact HB.out))) | (with_reducible refine Kd.C_alloc ?_ _) | (with_reducible refine Kd.C_drewN ?_ _) | (with_reducible refine Kd.C_drew ?_))); (case side6 => exact HC5.out); rintro e w35 ⟨v228, rfl, ho0, hb⟩; refine ⟨_, rfl, ?_⟩; have nb_ := Aside0.mk ((hb.block _ (blk_lt BX.out)).trans BX.out); clear BX; have BX := nb_; clear nb_; have n0_ := Aside0.mk (Kd.R_elder' (by (with_reducible repeat (first | apply Kd.R_alloc | apply Kd.R_drewN | apply Kd.R_drew)); exact HO211.out) (Kd.R_base ho0) hb); have n1_ := Aside0.mk (Kd.R_elder' (by (with_reducible repeat (first | apply Kd.R_alloc | apply Kd.R_drewN | apply Kd.R_drew)); exact HO214.out) (Kd.R_base ho0) hb); have n2_ := Aside0.mk (Kd.R_elder' (by (with_reducible repeat (first | apply Kd.R_alloc | apply Kd.R_drewN | apply Kd.R_drew)); exact HO217.out) (Kd.R_base ho0) hb); have n3_ := Aside0.mk (Kd.R_elder' (by (with_reducible repeat (first | apply Kd.R_alloc | apply Kd.R_drewN | apply Kd.R_drew)); exact HO220.out) (Kd.R_base ho0) hb); have n4_ := Aside0.mk (Kd.R_elder' (by (with_reducible repeat (first | apply Kd.R_alloc | apply Kd.R_drewN | apply Kd.R_drew)); exact HO223.out) (Kd.R_base ho0) hb); have n5_ := Aside0.mk (Kd.R_lower (Kd.R_new' (Kd.R_new' (Kd.R_new' (Kd.R_new' (Kd.R_new' ho0 (Kd.R_lt (by (with_reducible repeat (first | apply Kd.R_alloc | apply Kd.R_drewN | apply Kd.R_drew)); exact HO211.out))) (Kd.R_lt (by (with_reducible repeat (first | apply Kd.R_alloc | apply Kd.R_drewN | apply Kd.R_drew)); exact HO214.out))) (Kd.R_lt (by (with_reducible repeat (first | apply Kd.R_alloc | apply Kd.R_drewN | apply Kd.R_drew)); exact HO217.out))) (Kd.R_lt (by (with_reducible repeat (first | apply Kd.R_alloc | apply Kd.R_drewN | apply Kd.R_drew)); exact HO220.out))) (Kd.R_lt (by (with_reducible repeat (first | apply Kd.R_alloc | apply Kd.R_drewN | apply Kd.R_drew)); exact HO223.out))) (below_size (by repeat (first | (with_reducible first | exact HB.out | apply below_alloc | apply pw_below_drewN | apply below_drew1 | exact Below.refl _ _) | exact HB.out)))); have n6_ := Aside0.mk (below_step (by repeat (first | (with_reducible first | exact HB.out | apply below_alloc | apply pw_below_drewN | apply below_drew1 | exact Below.refl _ _) | exact HB.out)) hb); clear HO211; clear HO214; clear HO217; clear HO220; clear HO223; clear HB; have HO211 := n0_; have HO214 := n1_; have HO217 := n2_; have HO220 := n3_; have HO223 := n4_; have HO229 := n5_; have HB := n6_; clear n0_ n1_ n2_ n3_ n4_ n5_ n6_; (try clear hb); (try clear hb2); (try clear hk); (try clear hi); (try clear ho0); obtain ⟨Ao36, co36, eo36⟩ := Kd.R_slice HO229.out; subst eo36) | ((with_reducible refine gate_callee (f := 57) rfl ?_); refine goesL_ (some 70) rfl rfl Try.func57 (by kernel_rfl) rfl #[.slice Ao36 t227.length co36, .int .i64 (l4.length : Int)] rfl (by (try simp only [List.map_toArray, List.map_cons, List.map_nil]); first | done | rfl | (simp only [List.length_drop, List.length_take]; rfl)) ?_; (with_reducible refine (octet_TakeInt.calls kj6 _ _ t227 (l4.length : Int) t230 t231 t232 _ ?side1 ?side2 A21.out).mono ?_); (case side1 => repeat (first | exact (Kd.R_reads' HO229.out).2.2 | (with_reducible refine Kd.C_alloc ?_ _) | (with_reducible refine Kd.C_drewN ?_ _) | (with_reducible refine Kd.C_drew ?_))); (case side2 => exact (Kd.R_reads' HO229.out).2.1); rintro e w' ⟨rfl, ⟨nd, rfl⟩⟩; refine ⟨_, rfl, ?_⟩; obtain ⟨Ao37, co37, eo37⟩ := Kd.R_slice HO217.out; subst eo37) | ((with_reducible refine gate_dst (N := 77) rfl ?_); refine goesC_ (some 77) rfl rfl Try.func96 (by kernel_rfl) rfl #[.slice Ao37 t215.length co37, .pointer (some ⟨gb, 0, none⟩)] (cap := #[.pointer (some ⟨gb, 0, none⟩)]) rfl (by first | rfl | (simp [Act.eval])) (by first | rfl | (simp [Act.eval])) ?_; (with_reducible refine (horariumlaw03_OctetBack_1.calls gb _ _ t215 A4 c4 l4 A5 c5 l5 t233 _ ?side1 ?side2 ?side3 ?side4 ?side5 ?side6 ?side7 A22.out).mono ?_); (case side7 => exact BX.out); (case side1 => repeat (first | exact (Kd.R_reads' HO217.out).2.2 | (with_reducible refine Kd.C_alloc ?_ _) | (with_reducible refine Kd.C_drewN ?_ _) | (with_reducible refine Kd.C_drew ?_))); (case side2 => exact (Kd.R_reads' HO217.out).2.1); (case side3 => repeat (first | exact (Kd.C_below HR4.out (by repeat (first | (with_reducible first | exact HB.out | apply below_alloc | apply pw_below_drewN | apply below_drew1 | exact Below.refl _ _) | exact HB.out))) | (with_reducible refine Kd.C_alloc ?_ _) | (with_reducible refine Kd.C_drewN ?_ _) | (with_reducible refine Kd.C_drew ?_))); (case side4 => exact HC4.out); (case side5 => repeat (first | exact (Kd.C_below HR5.out (by repeat (first | (with_reducible first | exact HB.out | apply below_alloc | apply pw_below_drewN | apply below_drew1 | exact Below.refl _ _) | exact HB.out))) | (with_reducible refine Kd.C_alloc ?_ _) | (with_reducible refine Kd.C_drewN ?_ _) | (with_reducible refine Kd.C_drew ?_))); (case side6 => exact HC5.out); rintro e w38 ⟨v234, rfl, ho0, hb⟩; refine ⟨_, rfl, ?_⟩; have nb_ := Aside0.mk ((hb.block _ (blk_lt BX.out)).trans BX.out); clear BX; have BX := nb_; clear nb_; have n0_ := Aside0.mk (Kd.R_elder' (by (with_reducible repeat (first | apply Kd.R_alloc | apply Kd.R_drewN | apply Kd.R_drew)); exact HO211.out) (Kd.R_base ho0) hb); have n1_ := Aside0.mk (Kd.R_elder' (by (with_reducible repeat (first | apply Kd.R_alloc | apply Kd.R_drewN | apply Kd.R_drew)); exact HO214.out) (Kd.R_base ho0) hb); have n2_ := Aside0.mk (Kd.R_elder' (by (with_reducible repeat (first | apply Kd.R_alloc | apply Kd.R_drewN | apply Kd.R_drew)); exact HO217.out) (Kd.R_base ho0) hb); have n3_ := Aside0.mk (Kd.R_elder' (by (with_reducible repeat (first | apply Kd.R_alloc | apply Kd.R_drewN | apply Kd.R_drew)); exact HO220.out) (Kd.R_base ho0) hb); have n4_ := Aside0.mk (Kd.R_elder' (by (with_reducible repeat (first | apply Kd.R_alloc | apply Kd.R_drewN | apply Kd.R_drew)); exact HO223.out) (Kd.R_base ho0) hb); have n5_ := Aside0.mk (Kd.R_elder' (by (with_reducible repeat (first | apply Kd.R_alloc | apply Kd.R_drewN | apply Kd.R_drew)); exact HO229.out) (Kd.R_base ho0) hb); have n6_ := Aside0.mk (Kd.R_lower (Kd.R_new' (Kd.R_new' (Kd.R_new' (Kd.R_new' (Kd.R_new' (Kd.R_new' ho0 (Kd.R_lt (by (with_reducible repeat (first | apply Kd.R_alloc | apply Kd.R_drewN | apply Kd.R_drew)); exact HO211.out))) (Kd.R_lt (by (with_reducible repeat (first | apply Kd.R_alloc | apply Kd.R_drewN | apply Kd.R_drew)); exact HO214.out))) (Kd.R_lt (by (with_reducible repeat (first | apply Kd.R_alloc | apply Kd.R_drewN | apply Kd.R_drew)); exact HO217.out))) (Kd.R_lt (by (with_reducible repeat (first | apply Kd.R_alloc | apply Kd.R_drewN | apply Kd.R_drew)); exact HO220.out))) (Kd.R_lt (by (with_reducible repeat (first | apply Kd.R_alloc | apply Kd.R_drewN | apply Kd.R_drew)); exact HO223.out))) (Kd.R_lt (by (with_reducible repeat (first | apply Kd.R_alloc | apply Kd.R_drewN | apply Kd.R_drew)); exact HO229.out))) (below_size (by repeat (first | (with_reducible first | exact HB.out | apply below_alloc | apply pw_below_drewN | apply below_drew1 | exact Below.refl _ _) | exact HB.out)))); have n7_ := Aside0.mk (below_step (by repeat (first | (with_reducible first | exact HB.out | apply below_alloc | apply pw_below_drewN | apply below_drew1 | exact Below.refl _ _) | exact HB.out)) hb); clear HO211; clear HO214; clear HO217; clear HO220; clear HO223; clear HO229; clear HB; have HO211 := n0_; have HO214 := n1_; have HO217 := n2_; have HO220 := n3_; have HO223 := n4_; have HO229 := n5_; have HO235 := n6_; have HB := n7_; clear n0_ n1_ n2_ n3_ n4_ n5_ n6_ n7_; (try clear hb); (try clear hb2); (try clear hk); (try clear hi); (try clear ho0); obtain ⟨Ao39, co39, eo39⟩ := Kd.R_slice HO235.out; subst eo39) | ((with_reducible refine gate_callee (f := 97) rfl ?_); refine goesL_ (some 81) rfl rfl Try.func97 (by kernel_rfl) rfl #[.slice Ao39 t233.length co39, .int .i64 (l4.length : Int), .int .i64 (a2.size : Int)] rfl (by (try simp only [List.map_toArray, List.map_cons, List.map_nil]); first | done | rfl | (simp only [List.length_drop, List.length_take]; rfl)) ?_; (with_reducible refine (octet_TakeText.calls kj6 _ _ t233 (l4.length : Int) (a2.size : Int) t236 t237 t238 _ ?side1 ?side2 A23.out).mono ?_); (case side1 => repeat (first | exact (Kd.R_reads' HO235.out).2.2 | (with_reducible refine Kd.C_alloc ?_ _) | (with_reducible refine Kd.C_drewN ?_ _) | (with_reducible refine Kd.C_drew ?_))); (case side2 => exact (Kd.R_reads' HO235.out).2.1); rintro e w' ⟨rfl, ⟨nd, rfl⟩⟩; refine ⟨_, rfl, ?_⟩; obtain ⟨Ao40, co40, eo40⟩ := Kd.R_slice HO220.out; subst eo40) | ((with_reducible refine gate_dst (N := 88) rfl ?_); refine goesC_ (some 88) rfl rfl Try.func96 (by kernel_rfl) rfl #[.slice Ao40 t218.length co40, .pointer (some ⟨gb, 0, none⟩)] (cap := #[.pointer (some ⟨gb, 0, none⟩)]) rfl (by first | rfl | (simp [Act.eval])) (by first | rfl | (simp [Act.eval])) ?_; (with_reducible refine (horariumlaw03_OctetBack_1.calls gb _ _ t218 A4 c4 l4 A5 c5 l5 t239 _ ?side1 ?side2 ?side3 ?side4 ?side5 ?side6 ?side7 A24.out).mono ?_); (case side7 => exact BX.out); (case side1 => repeat (first | exact (Kd.R_reads' HO220.out).2.2 | (with_reducible refine Kd.C_alloc ?_ _) | (with_reducible refine Kd.C_drewN ?_ _) | (with_reducible refine Kd.C_drew ?_))); (case side2 => exact (Kd.R_reads' HO220.out).2.1); (case side3 => repeat (first | exact (Kd.C_below HR4.out (by repeat (first | (with_reducible first | exact HB.out | apply below_alloc | apply pw_below_drewN | apply below_drew1 | exact Below.refl _ _) | exact HB.out))) | (with_reducible refine Kd.C_alloc ?_ _) | (with_reducible refine Kd.C_drewN ?_ _) | (with_reducible refine Kd.C_drew ?_))); (case side4 => exact HC4.out); (case side5 => repeat (first | exact (Kd.C_below HR5.out (by repeat (first | (with_reducible first | exact HB.out | apply below_alloc | apply pw_below_drewN | apply below_drew1 | exact Below.refl _ _) | exact HB.out))) | (with_reducible refine Kd.C_alloc ?_ _) | (with_reducible refine Kd.C_drewN ?_ _) | (with_reducible refine Kd.C_drew ?_))); (case side6 => exact HC5.out); rintro e w41 ⟨v240, rfl, ho0, hb⟩; refine ⟨_, rfl, ?_⟩; have nb_ := Aside0.mk ((hb.block _ (blk_lt BX.out)).trans BX.out); clear BX; have BX := nb_; clear nb_; have n0_ := Aside0.mk (Kd.R_elder' (by (with_reducible repeat (first | apply Kd.R_alloc | apply Kd.R_drewN | apply Kd.R_drew)); exact HO211.out) (Kd.R_base ho0) hb); have n1_ := Aside0.mk (Kd.R_elder' (by (with_reducible repeat (first | apply Kd.R_alloc | apply Kd.R_drewN | apply Kd.R_drew)); exact HO214.out) (Kd.R_base ho0) hb); have n2_ := Aside0.mk (Kd.R_elder' (by (with_reducible repeat (first | apply Kd.R_alloc | apply Kd.R_drewN | apply Kd.R_drew)); exact HO217.out) (Kd.R_base ho0) hb); have n3_ := Aside0.mk (Kd.R_elder' (by (with_reducible repeat (first | apply Kd.R_alloc | apply Kd.R_drewN | apply Kd.R_drew)); exact HO220.out) (Kd.R_base ho0) hb); have n4_ := Aside0.mk (Kd.R_elder' (by (with_reducible repeat (first | apply Kd.R_alloc | apply Kd.R_drewN | apply Kd.R_drew)); exact HO223.out) (Kd.R_base ho0) hb); have n5_ := Aside0.mk (Kd.R_elder' (by (with_reducible repeat (first | apply Kd.R_alloc | apply Kd.R_drewN | apply Kd.R_drew)); exact HO229.out) (Kd.R_base ho0) hb); have n6_ := Aside0.mk (Kd.R_elder' (by (with_reducible repeat (first | apply Kd.R_alloc | apply Kd.R_drewN | apply Kd.R_drew)); exact HO235.out) (Kd.R_base ho0) hb); have n7_ := Aside0.mk (Kd.R_lower (Kd.R_new' (Kd.R_new' (Kd.R_new' (Kd.R_new' (Kd.R_new' (Kd.R_new' (Kd.R_new' ho0 (Kd.R_lt (by (with_reducible repeat (first | apply Kd.R_alloc | apply Kd.R_drewN | apply Kd.R_drew)); exact HO211.out))) (Kd.R_lt (by (with_reducible repeat (first | apply Kd.R_alloc | apply Kd.R_drewN | apply Kd.R_drew)); exact HO214.out))) (Kd.R_lt (by (with_reducible repeat (first | apply Kd.R_alloc | apply Kd.R_drewN | apply Kd.R_drew)); exact HO217.out))) (Kd.R_lt (by (with_reducible repeat (first | apply Kd.R_alloc | apply Kd.R_drewN | apply Kd.R_drew)); exact HO220.out))) (Kd.R_lt (by (with_reducible repeat (first | apply Kd.R_alloc | apply Kd.R_drewN | apply Kd.R_drew)); exact HO223.out))) (Kd.R_lt (by (with_reducible repeat (first | apply Kd.R_alloc | apply Kd.R_drewN | apply Kd.R_drew)); exact HO229.out))) (Kd.R_lt (by (with_reducible repeat (first | apply Kd.R_alloc | apply Kd.R_drewN | apply Kd.R_drew)); exact HO235.out))) (below_size (by repeat (first | (with_reducible first | exact HB.out | apply below_alloc | apply pw_below_drewN | apply below_drew1 | exact Below.refl _ _) | exact HB.out)))); have n8_ := Aside0.mk (below_step (by repeat (first | (with_reducible first | exact HB.out | apply below_alloc | apply pw_below_drewN | apply below_drew1 | exact Below.refl _ _) | exact HB.out)) hb); clear HO211; clear HO214; clear HO217; clear HO220; clear HO223; clear HO229; clear HO235; clear HB; have HO211 := n0_; have HO214 := n1_; have HO217 := n2_; have HO220 := n3_; have HO223 := n4_; have HO229 := n5_; have HO235 := n6_; have HO241 := n7_; have HB := n8_; clear n0_ n1_ n2_ n3_ n4_ n5_ n6_ n7_ n8_; (try clear hb); (try clear hb2); (try clear hk); (try clear hi); (try clear ho0); obtain ⟨Ao42, co42, eo42⟩ := Kd.R_slice HO241.out; subst eo42) | ((with_reducible refine gate_callee (f := 69) rfl ?_); refine goesL_ (some 92) rfl rfl Try.func69 (by kernel_rfl) rfl #[.slice Ao42 t239.length co42, .int .i64 (l4.length : Int), .int .i64 (l3.length : Int)] rfl (by (try simp only [List.map_toArray, List.map_cons, List.map_nil]); first | done | rfl | (simp only [List.length_drop, List.length_take]; rfl)) ?_; (with_reducible refine (octet_TakeList.calls kj6 _ _ t239 (l4.length : Int) (l3.length : Int) t242 t243 t244 _ ?side1 ?side2 A25.out).mono ?_); (case side1 => repeat (first | exact (Kd.R_reads' HO241.out).2.2 | (with_reducible refine Kd.C_alloc ?_ _) | (with_reducible refine Kd.C_drewN ?_ _) | (with_reducible refine Kd.C_drew ?_))); (case side2 => exact (Kd.R_reads' HO241.out).2.1); rintro e w43 ⟨v245, rfl, ho0, hb⟩; refine ⟨_, rfl, ?_⟩; have nb_ := Aside0.mk ((hb.block _ (blk_lt BX.out)).trans BX.out); clear BX; have BX := nb_; clear nb_; have n0_ := Aside0.mk (Kd.R_below (by (with_reducible repeat (first | apply Kd.R_alloc | apply Kd.R_drewN | apply Kd.R_drew)); exact HO211.out) hb); have n1_ := Aside0.mk (Kd.R_below (by (with_reducible repeat (first | apply Kd.R_alloc | apply Kd.R_drewN | apply Kd.R_drew)); exact HO214.out) hb); have n2_ := Aside0.mk (Kd.R_below (by (with_reducible repeat (first | apply Kd.R_alloc | apply Kd.R_drewN | apply Kd.R_drew)); exact HO217.out) hb); have n3_ := Aside0.mk (Kd.R_below (by (with_reducible repeat (first | apply Kd.R_alloc | apply Kd.R_drewN | apply Kd.R_drew)); exact HO220.out) hb); have n4_ := Aside0.mk (Kd.R_below (by (with_reducible repeat (first | apply Kd.R_alloc | apply Kd.R_drewN | apply Kd.R_drew)); exact HO223.out) hb); have n5_ := Aside0.mk (Kd.R_below (by (with_reducible repeat (first | apply Kd.R_alloc | apply Kd.R_drewN | apply Kd.R_drew)); exact HO229.out) hb); have n6_ := Aside0.mk (Kd.R_below (by (with_reducible repeat (first | apply Kd.R_alloc | apply Kd.R_drewN | apply Kd.R_drew)); exact HO235.out) hb); have n7_ := Aside0.mk (Kd.R_below (by (with_reducible repeat (first | apply Kd.R_alloc | apply Kd.R_drewN | apply Kd.R_drew)); exact HO241.out) hb); have n8_ := Aside0.mk (Kd.R_lower ho0 (below_size (by repeat (first | (with_reducible first | exact HB.out | apply below_alloc | apply pw_below_drewN | apply below_drew1 | exact Below.refl _ _) | exact HB.out)))); have n9_ := Aside0.mk (below_step (by repeat (first | (with_reducible first | exact HB.out | apply below_alloc | apply pw_below_drewN | apply below_drew1 | exact Below.refl _ _) | exact HB.out)) hb); clear HO211; clear HO214; clear HO217; clear HO220; clear HO223; clear HO229; clear HO235; clear HO241; clear HB; have HO211 := n0_; have HO214 := n1_; have HO217 := n2_; have HO220 := n3_; have HO223 := n4_; have HO229 := n5_; have HO235 := n6_; have HO241 := n7_; have HO246 := n8_; have HB := n9_; clear n0_ n1_ n2_ n3_ n4_ n5_ n6_ n7_ n8_ n9_; (try clear hb); (try clear hb2); (try clear hk); (try clear hi); (try clear ho0)))
        (try simp only [Act.put, List.setIfInBounds_toArray, List.set_cons_zero, List.set_cons_succ])
        go_cut [127] (fun v127 wc => ∃ (kq : Nat) (x127_25 : Bool), v127 = .bool x127_25 ∧ Aside0 (horariumlaw03_OctetBack.j1 kq a2 l3 (l4.length : Int) t215 t218 t236 t237 t238 t242 t243 t244 x127_25 = some r) ∧ Aside0 (kq ≤ kj6) ∧ Aside0 (Kd.R (Kd.int .u8) 5 wc w.heap.size (fun k_ => some k_ ≠ ((.slice Ao40 t218.length co40) : Value).ownBlock) (.slice Ao37 t215.length co37) t215) ∧ Aside0 (Kd.R (Kd.int .u8) 5 wc w.heap.size (fun k_ => some k_ ≠ ((.slice Ao37 t215.length co37) : Value).ownBlock) (.slice Ao40 t218.length co40) t218) ∧ Aside0 (Kd.R (Kd.int .i64) 3 wc w.heap.size (fun _ => True) v245 t242) ∧ Aside0 (Below w.heap.size w wc))
        case first =>
          have H := HC26.out
          clear HC26
          by_cases c44 : t224 = a0
          · rw [if_pos c44] at H
            have c44b0 : (t224 == a0) = true := beq_iff_eq.mpr c44
            have c44b1 : (t224 != a0) = false := bne_eq_false_iff_eq.mpr c44
            clear c44
            (first | rw [c44b0] | (simp only [i64_w, i32_w]; rw [c44b0]) | skip)
            by_cases c45 : t225 = (wrap64 ((l4.length : Int) + (t209.length : Int)))
            · rw [if_pos c45] at H
              have c45b0 : (t225 == (wrap64 ((l4.length : Int) + (t209.length : Int)))) = true := beq_iff_eq.mpr c45
              have c45b1 : (t225 != (wrap64 ((l4.length : Int) + (t209.length : Int)))) = false := bne_eq_false_iff_eq.mpr c45
              clear c45
              by_cases c46 : t226 = 0
              · rw [if_pos c46] at H
                have c46b0 : (t226 == 0) = true := beq_iff_eq.mpr c46
                have c46b1 : (t226 != 0) = false := bne_eq_false_iff_eq.mpr c46
                clear c46
                by_cases c47 : t230 = a1
                · rw [if_pos c47] at H
                  have c47b0 : (t230 == a1) = true := beq_iff_eq.mpr c47
                  have c47b1 : (t230 != a1) = false := bne_eq_false_iff_eq.mpr c47
                  clear c47
                  by_cases c48 : t231 = (wrap64 ((l4.length : Int) + (t212.length : Int)))
                  · rw [if_pos c48] at H
                    have c48b0 : (t231 == (wrap64 ((l4.length : Int) + (t212.length : Int)))) = true := beq_iff_eq.mpr c48
                    have c48b1 : (t231 != (wrap64 ((l4.length : Int) + (t212.length : Int)))) = false := bne_eq_false_iff_eq.mpr c48
                    clear c48
                    have H' := Aside0.mk H
                    clear H
                    go_wp2
                    go_meet
                    case rel => exact ⟨_, ((t232 != 0)), (by first | rfl | (simp; done) | (simp [*]; done)), H', ⟨by have := HJ6.out; first | omega | exact Nat.le_refl _⟩, ⟨by (with_reducible repeat (first | apply Kd.R_alloc | apply Kd.R_drewN | apply Kd.R_drew)); exact Kd.R_mono HO217.out (fun _ hk => hk.1.1.1.1.2)⟩, ⟨by (with_reducible repeat (first | apply Kd.R_alloc | apply Kd.R_drewN | apply Kd.R_drew)); exact Kd.R_mono HO220.out (fun _ hk => hk.1.1.1.1.2)⟩, ⟨by (with_reducible repeat (first | apply Kd.R_alloc | apply Kd.R_drewN | apply Kd.R_drew)); exact HO246.out⟩, ⟨by repeat (first | (with_reducible first | exact HB.out | apply below_alloc | apply pw_below_drewN | apply below_drew1 | exact Below.refl _ _) | exact HB.out)⟩⟩
                  · rw [if_neg c48] at H
                    have c48b0 : (t231 == (wrap64 ((l4.length : Int) + (t212.length : Int)))) = false := beq_eq_false_iff_ne.mpr c48
                    have c48b1 : (t231 != (wrap64 ((l4.length : Int) + (t212.length : Int)))) = true := bne_iff_ne.mpr c48
                    have H' := Aside0.mk H
                    clear H
                    go_wp2
                    go_meet
                    case rel => exact ⟨_, (true), (by first | rfl | (simp; done) | (simp [*]; done)), H', ⟨by have := HJ6.out; first | omega | exact Nat.le_refl _⟩, ⟨by (with_reducible repeat (first | apply Kd.R_alloc | apply Kd.R_drewN | apply Kd.R_drew)); exact Kd.R_mono HO217.out (fun _ hk => hk.1.1.1.1.2)⟩, ⟨by (with_reducible repeat (first | apply Kd.R_alloc | apply Kd.R_drewN | apply Kd.R_drew)); exact Kd.R_mono HO220.out (fun _ hk => hk.1.1.1.1.2)⟩, ⟨by (with_reducible repeat (first | apply Kd.R_alloc | apply Kd.R_drewN | apply Kd.R_drew)); exact HO246.out⟩, ⟨by repeat (first | (with_reducible first | exact HB.out | apply below_alloc | apply pw_below_drewN | apply below_drew1 | exact Below.refl _ _) | exact HB.out)⟩⟩
                · rw [if_neg c47] at H
                  have c47b0 : (t230 == a1) = false := beq_eq_false_iff_ne.mpr c47
                  have c47b1 : (t230 != a1) = true := bne_iff_ne.mpr c47
                  have H' := Aside0.mk H
                  clear H
                  go_wp2
                  go_meet
                  case rel => exact ⟨_, (true), (by first | rfl | (simp; done) | (simp [*]; done)), H', ⟨by have := HJ6.out; first | omega | exact Nat.le_refl _⟩, ⟨by (with_reducible repeat (first | apply Kd.R_alloc | apply Kd.R_drewN | apply Kd.R_drew)); exact Kd.R_mono HO217.out (fun _ hk => hk.1.1.1.1.2)⟩, ⟨by (with_reducible repeat (first | apply Kd.R_alloc | apply Kd.R_drewN | apply Kd.R_drew)); exact Kd.R_mono HO220.out (fun _ hk => hk.1.1.1.1.2)⟩, ⟨by (with_reducible repeat (first | apply Kd.R_alloc | apply Kd.R_drewN | apply Kd.R_drew)); exact HO246.out⟩, ⟨by repeat (first | (with_reducible first | exact HB.out | apply below_alloc | apply pw_below_drewN | apply below_drew1 | exact Below.refl _ _) | exact HB.out)⟩⟩
              · rw [if_neg c46] at H
                have c46b0 : (t226 == 0) = false := beq_eq_false_iff_ne.mpr c46
                have c46b1 : (t226 != 0) = true := bne_iff_ne.mpr c46
                have H' := Aside0.mk H
                clear H
                go_wp2
                go_meet
                case rel => exact ⟨_, (true), (by first | rfl | (simp; done) | (simp [*]; done)), H', ⟨by have := HJ6.out; first | omega | exact Nat.le_refl _⟩, ⟨by (with_reducible repeat (first | apply Kd.R_alloc | apply Kd.R_drewN | apply Kd.R_drew)); exact Kd.R_mono HO217.out (fun _ hk => hk.1.1.1.1.2)⟩, ⟨by (with_reducible repeat (first | apply Kd.R_alloc | apply Kd.R_drewN | apply Kd.R_drew)); exact Kd.R_mono HO220.out (fun _ hk => hk.1.1.1.1.2)⟩, ⟨by (with_reducible repeat (first | apply Kd.R_alloc | apply Kd.R_drewN | apply Kd.R_drew)); exact HO246.out⟩, ⟨by repeat (first | (with_reducible first | exact HB.out | apply below_alloc | apply pw_below_drewN | apply below_drew1 | exact Below.refl _ _) | exact HB.out)⟩⟩
            · rw [if_neg c45] at H
              have c45b0 : (t225 == (wrap64 ((l4.length : Int) + (t209.length : Int)))) = false := beq_eq_false_iff_ne.mpr c45
              have c45b1 : (t225 != (wrap64 ((l4.length : Int) + (t209.length : Int)))) = true := bne_iff_ne.mpr c45
              have H' := Aside0.mk H
              clear H
              go_wp2
              go_meet
              case rel => exact ⟨_, (true), (by first | rfl | (simp; done) | (simp [*]; done)), H', ⟨by have := HJ6.out; first | omega | exact Nat.le_refl _⟩, ⟨by (with_reducible repeat (first | apply Kd.R_alloc | apply Kd.R_drewN | apply Kd.R_drew)); exact Kd.R_mono HO217.out (fun _ hk => hk.1.1.1.1.2)⟩, ⟨by (with_reducible repeat (first | apply Kd.R_alloc | apply Kd.R_drewN | apply Kd.R_drew)); exact Kd.R_mono HO220.out (fun _ hk => hk.1.1.1.1.2)⟩, ⟨by (with_reducible repeat (first | apply Kd.R_alloc | apply Kd.R_drewN | apply Kd.R_drew)); exact HO246.out⟩, ⟨by repeat (first | (with_reducible first | exact HB.out | apply below_alloc | apply pw_below_drewN | apply below_drew1 | exact Below.refl _ _) | exact HB.out)⟩⟩
          · rw [if_neg c44] at H
            have c44b0 : (t224 == a0) = false := beq_eq_false_iff_ne.mpr c44
            have c44b1 : (t224 != a0) = true := bne_iff_ne.mpr c44
            (first | rw [c44b0] | (simp only [i64_w, i32_w]; rw [c44b0]) | skip)
            have H' := Aside0.mk H
            clear H
            go_wp2
            go_meet
            case rel => exact ⟨_, (true), (by first | rfl | (simp; done) | (simp [*]; done)), H', ⟨by have := HJ6.out; first | omega | exact Nat.le_refl _⟩, ⟨by (with_reducible repeat (first | apply Kd.R_alloc | apply Kd.R_drewN | apply Kd.R_drew)); exact Kd.R_mono HO217.out (fun _ hk => hk.1.1.1.1.2)⟩, ⟨by (with_reducible repeat (first | apply Kd.R_alloc | apply Kd.R_drewN | apply Kd.R_drew)); exact Kd.R_mono HO220.out (fun _ hk => hk.1.1.1.1.2)⟩, ⟨by (with_reducible repeat (first | apply Kd.R_alloc | apply Kd.R_drewN | apply Kd.R_drew)); exact HO246.out⟩, ⟨by repeat (first | (with_reducible first | exact HB.out | apply below_alloc | apply pw_below_drewN | apply below_drew1 | exact Below.refl _ _) | exact HB.out)⟩⟩
        case rest =>
          clear HC26
          try clear c1
          try clear p2
          try clear c3
          try clear c4
          try clear c5
          try clear c6
          try clear p6
          try clear c9
          try clear c11
          try clear c19
          try clear c44
          try clear c44b0
          try clear c44b1
          try clear c45
          try clear c45b0
          try clear c45b1
          try clear c46
          try clear c46b0
          try clear c46b1
          try clear c47
          try clear c47b0
          try clear c47b1
          try clear c48
          try clear c48b0
          try clear c48b1
          try clear p2
          obtain ⟨kq, x127_25, rfl, HA, HJ25, HO_15, HO_16, HO_26, HB⟩ := hcut
          cases kq with
          | zero => exact absurd HA.out (by simp [horariumlaw03_OctetBack.j1])
          | succ kj25 =>
            have H := HA.out
            clear HA
            simp only [horariumlaw03_OctetBack.j1] at H
            by_cases c49 : x127_25 = true
            · subst c49
              have H1 : (some false) = some r := by rw [if_pos rfl] at H; exact H
              clear H
              have H := H1
              clear H1
              obtain rfl := Option.some.inj H
              go_wp2
              go_ret
              exact ⟨by first | rfl | (simp [errW_none, errW_some] <;> rfl) | (simp [*, errW_none, errW_some] <;> rfl), by repeat (first | (with_reducible first | exact HB.out | apply below_alloc | apply pw_below_drewN | apply below_drew1 | exact Below.refl _ _) | exact HB.out)⟩
            · replace c49 := Bool.eq_false_iff.mpr c49
              subst c49
              have H1 : (if t236.toList = a2.toList then (if t237 = (wrap64 ((l4.length : Int) + (t215.length : Int))) then (if t238 = 0 then ((horariumref03_Ints.f kj25 t242 l3).bind fun t247 => (if t247 = true then (if t243 = (wrap64 ((l4.length : Int) + (t218.length : Int))) then (if t244 = 0 then ((horariumlaw03_heads.f kj25).bind fun t248 => (some t248)) else (some false)) else (some false)) else (some false))) else (some false)) else (some false)) else (some false)) = some r := by rw [if_neg (show ¬ (false = true) by decide)] at H; exact H
              clear H
              have H := H1
              clear H1
              by_cases c50 : t236.toList = a2.toList
              · rw [if_pos c50] at H
                have c50b0 : (t236.toList == a2.toList) = true := beq_iff_eq.mpr c50
                have c50b1 : (t236.toList != a2.toList) = false := bne_eq_false_iff_eq.mpr c50
                clear c50
                by_cases c51 : t237 = (wrap64 ((l4.length : Int) + (t215.length : Int)))
                · rw [if_pos c51] at H
                  have c51b0 : (t237 == (wrap64 ((l4.length : Int) + (t215.length : Int)))) = true := beq_iff_eq.mpr c51
                  have c51b1 : (t237 != (wrap64 ((l4.length : Int) + (t215.length : Int)))) = false := bne_eq_false_iff_eq.mpr c51
                  clear c51
                  by_cases c52 : t238 = 0
                  · rw [if_pos c52] at H
                    have c52b0 : (t238 == 0) = true := beq_iff_eq.mpr c52
                    have c52b1 : (t238 != 0) = false := bne_eq_false_iff_eq.mpr c52
                    clear c52
                    replace H := Option.bind_eq_some_iff.mp H
                    obtain ⟨t247, A530, H⟩ := H
                    replace H : (if t247 = true then (if t243 = (wrap64 ((l4.length : Int) + (t218.length : Int))) then (if t244 = 0 then ((horariumlaw03_heads.f kj25).bind fun t248 => (some t248)) else (some false)) else (some false)) else (some false)) = some r := H
                    have A53 := Aside0.mk A530
                    clear A530
                    by_cases c54 : t247 = true
                    · subst c54
                      have H1 : (if t243 = (wrap64 ((l4.length : Int) + (t218.length : Int))) then (if t244 = 0 then ((horariumlaw03_heads.f kj25).bind fun t248 => (some t248)) else (some false)) else (some false)) = some r := by rw [if_pos rfl] at H; exact H
                      clear H
                      have H := H1
                      clear H1
                      by_cases c55 : t243 = (wrap64 ((l4.length : Int) + (t218.length : Int)))
                      · rw [if_pos c55] at H
                        have c55b0 : (t243 == (wrap64 ((l4.length : Int) + (t218.length : Int)))) = true := beq_iff_eq.mpr c55
                        have c55b1 : (t243 != (wrap64 ((l4.length : Int) + (t218.length : Int)))) = false := bne_eq_false_iff_eq.mpr c55
                        clear c55
                        by_cases c56 : t244 = 0
                        · rw [if_pos c56] at H
                          have c56b0 : (t244 == 0) = true := beq_iff_eq.mpr c56
                          have c56b1 : (t244 != 0) = false := bne_eq_false_iff_eq.mpr c56
                          clear c56
                          replace H := Option.bind_eq_some_iff.mp H
                          obtain ⟨t248, A570, H⟩ := H
                          replace H : (some t248) = some r := H
                          have A57 := Aside0.mk A570
                          clear A570
                          obtain rfl := Option.some.inj H
                          obtain ⟨Ao58, co58, eo58⟩ := Kd.R_slice HO_26.out
                          subst eo58
                          go_wp2_with (first | (go_at_call 43; (with_reducible refine (horariumref03_Ints.calls kj25 _ _ t242 _ _ l3 true _ ?side1 ?side2 ?side3 ?side4 A53.out).mono ?_); (case side1 => repeat (first | exact (Kd.R_reads' HO_26.out).2.2 | (with_reducible refine Kd.C_alloc ?_ _) | (with_reducible refine Kd.C_drewN ?_ _) | (with_reducible refine Kd.C_drew ?_))); (case side2 => exact (Kd.R_reads' HO_26.out).2.1); (case side3 => repeat (first | exact (Kd.C_below HR3.out HB.out) | (with_reducible refine Kd.C_alloc ?_ _) | (with_reducible refine Kd.C_drewN ?_ _) | (with_reducible refine Kd.C_drew ?_))); (case side4 => exact HC3.out); rintro e w' ⟨rfl, ⟨nd, rfl⟩⟩) | (go_at_call 45; (with_reducible refine (horariumlaw03_heads.calls kj25  t248 _ A57.out).mono ?_); rintro e w59 ⟨rfl, hb⟩; have n0_ := Aside0.mk (Kd.R_below (by (with_reducible repeat (first | apply Kd.R_alloc | apply Kd.R_drewN | apply Kd.R_drew)); exact HO_15.out) hb); have n1_ := Aside0.mk (Kd.R_below (by (with_reducible repeat (first | apply Kd.R_alloc | apply Kd.R_drewN | apply Kd.R_drew)); exact HO_16.out) hb); have n2_ := Aside0.mk (Kd.R_below (by (with_reducible repeat (first | apply Kd.R_alloc | apply Kd.R_drewN | apply Kd.R_drew)); exact HO_26.out) hb); have n3_ := Aside0.mk (below_step (by repeat (first | (with_reducible first | exact HB.out | apply below_alloc | apply pw_below_drewN | apply below_drew1 | exact Below.refl _ _) | exact HB.out)) hb); clear HO_15; clear HO_16; clear HO_26; clear HB; have HO_15 := n0_; have HO_16 := n1_; have HO_26 := n2_; have HB := n3_; clear n0_ n1_ n2_ n3_; (try clear hb); (try clear hb2); (try clear hk); (try clear hi)))
                          go_ret
                          exact ⟨by first | rfl | (simp [errW_none, errW_some] <;> rfl) | (simp [*, errW_none, errW_some] <;> rfl), by repeat (first | (with_reducible first | exact HB.out | apply below_alloc | apply pw_below_drewN | apply below_drew1 | exact Below.refl _ _) | exact HB.out)⟩
                        · rw [if_neg c56] at H
                          have c56b0 : (t244 == 0) = false := beq_eq_false_iff_ne.mpr c56
                          have c56b1 : (t244 != 0) = true := bne_iff_ne.mpr c56
                          obtain rfl := Option.some.inj H
                          obtain ⟨Ao60, co60, eo60⟩ := Kd.R_slice HO_26.out
                          subst eo60
                          go_wp2_with (first | (go_at_call 43; (with_reducible refine (horariumref03_Ints.calls kj25 _ _ t242 _ _ l3 true _ ?side1 ?side2 ?side3 ?side4 A53.out).mono ?_); (case side1 => repeat (first | exact (Kd.R_reads' HO_26.out).2.2 | (with_reducible refine Kd.C_alloc ?_ _) | (with_reducible refine Kd.C_drewN ?_ _) | (with_reducible refine Kd.C_drew ?_))); (case side2 => exact (Kd.R_reads' HO_26.out).2.1); (case side3 => repeat (first | exact (Kd.C_below HR3.out HB.out) | (with_reducible refine Kd.C_alloc ?_ _) | (with_reducible refine Kd.C_drewN ?_ _) | (with_reducible refine Kd.C_drew ?_))); (case side4 => exact HC3.out); rintro e w' ⟨rfl, ⟨nd, rfl⟩⟩))
                          go_ret
                          exact ⟨by first | rfl | (simp [errW_none, errW_some] <;> rfl) | (simp [*, errW_none, errW_some] <;> rfl), by repeat (first | (with_reducible first | exact HB.out | apply below_alloc | apply pw_below_drewN | apply below_drew1 | exact Below.refl _ _) | exact HB.out)⟩
                      · rw [if_neg c55] at H
                        have c55b0 : (t243 == (wrap64 ((l4.length : Int) + (t218.length : Int)))) = false := beq_eq_false_iff_ne.mpr c55
                        have c55b1 : (t243 != (wrap64 ((l4.length : Int) + (t218.length : Int)))) = true := bne_iff_ne.mpr c55
                        obtain rfl := Option.some.inj H
                        obtain ⟨Ao61, co61, eo61⟩ := Kd.R_slice HO_26.out
                        subst eo61
                        go_wp2_with (first | (go_at_call 43; (with_reducible refine (horariumref03_Ints.calls kj25 _ _ t242 _ _ l3 true _ ?side1 ?side2 ?side3 ?side4 A53.out).mono ?_); (case side1 => repeat (first | exact (Kd.R_reads' HO_26.out).2.2 | (with_reducible refine Kd.C_alloc ?_ _) | (with_reducible refine Kd.C_drewN ?_ _) | (with_reducible refine Kd.C_drew ?_))); (case side2 => exact (Kd.R_reads' HO_26.out).2.1); (case side3 => repeat (first | exact (Kd.C_below HR3.out HB.out) | (with_reducible refine Kd.C_alloc ?_ _) | (with_reducible refine Kd.C_drewN ?_ _) | (with_reducible refine Kd.C_drew ?_))); (case side4 => exact HC3.out); rintro e w' ⟨rfl, ⟨nd, rfl⟩⟩))
                        go_ret
                        exact ⟨by first | rfl | (simp [errW_none, errW_some] <;> rfl) | (simp [*, errW_none, errW_some] <;> rfl), by repeat (first | (with_reducible first | exact HB.out | apply below_alloc | apply pw_below_drewN | apply below_drew1 | exact Below.refl _ _) | exact HB.out)⟩
                    · replace c54 := Bool.eq_false_iff.mpr c54
                      subst c54
                      have H1 : (some false) = some r := by rw [if_neg (show ¬ (false = true) by decide)] at H; exact H
                      clear H
                      have H := H1
                      clear H1
                      obtain rfl := Option.some.inj H
                      obtain ⟨Ao62, co62, eo62⟩ := Kd.R_slice HO_26.out
                      subst eo62
                      go_wp2_with (first | (go_at_call 43; (with_reducible refine (horariumref03_Ints.calls kj25 _ _ t242 _ _ l3 false _ ?side1 ?side2 ?side3 ?side4 A53.out).mono ?_); (case side1 => repeat (first | exact (Kd.R_reads' HO_26.out).2.2 | (with_reducible refine Kd.C_alloc ?_ _) | (with_reducible refine Kd.C_drewN ?_ _) | (with_reducible refine Kd.C_drew ?_))); (case side2 => exact (Kd.R_reads' HO_26.out).2.1); (case side3 => repeat (first | exact (Kd.C_below HR3.out HB.out) | (with_reducible refine Kd.C_alloc ?_ _) | (with_reducible refine Kd.C_drewN ?_ _) | (with_reducible refine Kd.C_drew ?_))); (case side4 => exact HC3.out); rintro e w' ⟨rfl, ⟨nd, rfl⟩⟩))
                      go_ret
                      exact ⟨by first | rfl | (simp [errW_none, errW_some] <;> rfl) | (simp [*, errW_none, errW_some] <;> rfl), by repeat (first | (with_reducible first | exact HB.out | apply below_alloc | apply pw_below_drewN | apply below_drew1 | exact Below.refl _ _) | exact HB.out)⟩
                  · rw [if_neg c52] at H
                    have c52b0 : (t238 == 0) = false := beq_eq_false_iff_ne.mpr c52
                    have c52b1 : (t238 != 0) = true := bne_iff_ne.mpr c52
                    obtain rfl := Option.some.inj H
                    go_wp2
                    go_ret
                    exact ⟨by first | rfl | (simp [errW_none, errW_some] <;> rfl) | (simp [*, errW_none, errW_some] <;> rfl), by repeat (first | (with_reducible first | exact HB.out | apply below_alloc | apply pw_below_drewN | apply below_drew1 | exact Below.refl _ _) | exact HB.out)⟩
                · rw [if_neg c51] at H
                  have c51b0 : (t237 == (wrap64 ((l4.length : Int) + (t215.length : Int)))) = false := beq_eq_false_iff_ne.mpr c51
                  have c51b1 : (t237 != (wrap64 ((l4.length : Int) + (t215.length : Int)))) = true := bne_iff_ne.mpr c51
                  obtain rfl := Option.some.inj H
                  go_wp2
                  go_ret
                  exact ⟨by first | rfl | (simp [errW_none, errW_some] <;> rfl) | (simp [*, errW_none, errW_some] <;> rfl), by repeat (first | (with_reducible first | exact HB.out | apply below_alloc | apply pw_below_drewN | apply below_drew1 | exact Below.refl _ _) | exact HB.out)⟩
              · rw [if_neg c50] at H
                have c50b0 : (t236.toList == a2.toList) = false := beq_eq_false_iff_ne.mpr c50
                have c50b1 : (t236.toList != a2.toList) = true := bne_iff_ne.mpr c50
                obtain rfl := Option.some.inj H
                go_wp2
                go_ret
                exact ⟨by first | rfl | (simp [errW_none, errW_some] <;> rfl) | (simp [*, errW_none, errW_some] <;> rfl), by repeat (first | (with_reducible first | exact HB.out | apply below_alloc | apply pw_below_drewN | apply below_drew1 | exact Below.refl _ _) | exact HB.out)⟩

/-- THE ONE PURE STATEMENT of horariumlaw03_OctetBack: yours. -/
def horariumlaw03_OctetBack.Pure : Prop := ∀ (a0 : Int) (a1 : Int) (a2 : ByteArray) (l3 : List Int) (l4 : List Int) (l5 : List Int), (Lit.int .u64 a0).wf = true → (Lit.int .i64 a1).wf = true → a2.size ≤ 140737488351232 → l3.length ≤ maxLen → l3.length * 8 ≤ 140737488351232 → (∀ x ∈ l3, (Lit.int .i64 x).wf = true) → l4.length ≤ maxLen → l4.length * 1 ≤ 140737488351232 → (∀ x ∈ l4, (Lit.int .u8 x).wf = true) → l5.length ≤ maxLen → l5.length * 1 ≤ 140737488351232 → (∀ x ∈ l5, (Lit.int .u8 x).wf = true) → ∃ k, horariumlaw03_OctetBack.f k a0 a1 a2 l3 l4 l5 = some true
end Go.Proofs.Ytccjdefhieilpaa.PW
