/-
 What the law VaultPlays needs of Take (what it does not use is left out by a program of this session, wip/tools/dce.py).
-/
import Derived.Test.YtccjdefhieilpaaRBase
namespace Go.Proofs.Ytccjdefhieilpaa
open Go.RowKit Go.Proofs.YtccjdefhieilpaaW.PrintWords Go.Proofs.YtccjdefhieilpaaW.PrintLast Go.Proofs.YtccjdefhieilpaaW.PrintMore
set_option linter.unusedVariables false
set_option linter.unusedSimpArgs false
theorem take_cut (A : Option Addr) (c : Nat) (xs : List Int) (n : Nat) (hm : n ≤ xs.length) (hc : xs.length ≤ c) (w : World) (hr : Kd.C (Kd.int .u8) w A xs.length xs) :
  ∃ (A' : Option Addr) (L : List Int), L = xs.drop n ∧ (∀ W : World, (Instr.slice 44 (.slice A xs.length c) (some (.int .i64 (n : Int))) (some (.int .i64 (xs.length : Int))) (some (.int .i64 (xs.length : Int)))).run Try.prog W = .ok (.slice A' L.length L.length) W) ∧ Kd.C (Kd.int .u8) w A' L.length L := by
 obtain ⟨i, hi, _, hsz, _⟩ := info_parts byte_info
 obtain ⟨A', h1, h2, h3⟩ := print_mid3_of (P := Try.prog) (Value.int .u8) 0 44 5 .i64 .i64 Try.underlying44 hi hsz A c xs (n : Int) (xs.length : Int) (by omega) (by omega) (by omega) hc
 have e : (xs.take (xs.length : Int).toNat).drop (n : Int).toNat = xs.drop n := by simp
 rw [e] at h1 h2 h3
 refine ⟨A', _, rfl, fun W => ?_, Kd.C_of_reads (h1 := fun _ => rfl) (h2 w (Kd.reads_of_C hr))⟩
 rw [h1 W]
 simp
set_option maxHeartbeats 8000000 in
set_option maxRecDepth 100000 in
theorem take_calls (A0 : Option Addr) (c0 : Nat) (l0 : List Int) (a1 : Int) (w : World) (hr0 : Kd.C (Kd.int .u8) w A0 l0.length l0) (hc0 : l0.length ≤ c0) (hby : ∀ x ∈ l0, 0 ≤ x ∧ x < 256) (h1 : 0 ≤ a1) (h2 : a1 ≤ l0.length) :
  Calls Try.prog 55 #[.slice A0 l0.length c0, .int .i64 a1] w fun e w' => e = .returned (.tuple #[.int .u64 (Spec.take l0 a1).1, .int .i64 (Spec.take l0 a1).2.1, .int .i64 (Spec.take l0 a1).2.2]) ∧ Drawn0 w w' := by
 obtain ⟨n, rfl⟩ := Int.eq_ofNat_of_zero_le h1
 obtain ⟨r, hr⟩ : ∃ r, Spec.take l0 (n : Int) = r := ⟨_, rfl⟩
 rw [hr]
 obtain ⟨r1, r2, r3⟩ := r
 obtain ⟨A1, L, hL, hcut, hC⟩ := take_cut A0 c0 l0 n (by omega) hc0 w hr0
 have hlen : L.length ≤ 9223372036854775807 := hC.2.1
 have hln : n + L.length ≤ l0.length := by rw [hL, List.length_drop]; omega
 have hl0 : l0.length ≤ 9223372036854775807 := hr0.2.1
 have HBY : Aside0 (∀ x ∈ L, 0 ≤ x ∧ x < 256) := ⟨fun x hx => hby x (List.mem_of_mem_drop (hL ▸ hx))⟩
 have HTe : Aside0 (∀ x y e, Spec.takeL 0 0 L = (x, y, e) → e ≠ 0 → 0 = r1 ∧ 0 = r2 ∧ e = r3) :=
  ⟨fun x y e h he => by have h3 := (Spec.take_in l0 n (by omega) (hL ▸ h)).symm.trans hr; simpa [he] using h3⟩
 have HTo : Aside0 (∀ x y, Spec.takeL 0 0 L = (x, y, 0) → x = r1 ∧ (n : Int) + y = r2 ∧ 0 = r3) :=
  ⟨fun x y h => by have h3 := (Spec.take_in l0 n (by omega) (hL ▸ h)).symm.trans hr; simpa using h3⟩
 have HC := Aside0.mk hC
 clear hr0 hL hC hby hr
 have d1 : decide ((n : Int) < 0) = false := decide_eq_false (by omega)
 have d2 : decide ((n : Int) > (l0.length : Int)) = false := decide_eq_false (by omega)
 have d3 : decide ((l0.length : Int) < (n : Int)) = false := decide_eq_false (by omega)
 have d4 : decide (l0.length < n) = false := decide_eq_false (by omega)
 clear h1
 go_enter Try.func55, Try.ntmps55
 go_wp2
 go_loop [8, 28] (fun v8 v28 => ∃ (acc : Int) (j : Nat), v8 = .int .u64 acc ∧ v28 = .int .i64 j ∧ j ≤ L.length ∧ j ≤ 9 ∧ 0 ≤ acc ∧ acc < 128 ^ j ∧ Aside0 (Spec.takeL 0 0 L = Spec.takeL j acc (L.drop j))) (fun _ v28 => L.length - (intOf v28).toNat)
 case atStart => exact ⟨0, 0, rfl, rfl, by omega, by omega, by omega, by decide, ⟨rfl⟩⟩
 case round =>
  obtain ⟨acc, j, rfl, rfl, hj, hj9, ha0, ha1, HA⟩ := hrel
  by_cases hlt : j < L.length
  ·obtain ⟨ad, e1, hx⟩ := Kd.at_int HC.out (j : Int) (by omega) (by omega)
   subst e1
   obtain ⟨c, hc⟩ : ∃ c, c = rd L (j : Int) := ⟨_, rfl⟩
   rw [← hc, Int.toNat_natCast] at hx
   have hdrop : L.drop j = c :: L.drop (j + 1) := by
    rw [List.drop_eq_getElem_cons hlt, hc]
    simp [rd, List.getD_eq_getElem?_getD, List.getElem?_eq_getElem hlt]
   obtain ⟨hc0', hc1'⟩ := HBY.out c (List.mem_of_mem_drop (i := j) (by rw [hdrop]; exact List.mem_cons_self ..))
   have HDR := Aside0.mk hdrop
   clear hdrop hc
   by_cases h9 : j = 9 ∧ c > 1
   ·obtain ⟨h91, hc2⟩ := h9
    obtain ⟨rfl, rfl, rfl⟩ := HTe.out _ _ _ (HA.out.trans ((congrArg (Spec.takeL _ acc) HDR.out).trans (Spec.takeL_stop j acc c _ h91 hc2))) (by decide)
    have t1 : ((j : Int) == 9) = true := beq_iff_eq.mpr (by omega)
    clear h91
    have t2 : decide (c > 1) = true := decide_eq_true hc2
    have t3 : decide (1 < c) = true := decide_eq_true hc2
    go_wp2
    go_ret3
    exact ⟨rfl, Drawn0.refl _⟩
   ·by_cases hc128 : c ≥ 128
    ·have h9' : j ≠ 9 := fun h => h9 ⟨h, by omega⟩
     have t1 : ((j : Int) == 9) = false := beq_eq_false_iff_ne.mpr (by omega)
     have t2 : decide (c ≥ 128) = true := decide_eq_true hc128
     have t3 : decide (128 ≤ c) = true := decide_eq_true hc128
     obtain ⟨k1, k2, k3, _⟩ := Spec.or_step acc (c - 128) j ha0 ha1 (by omega) (by omega) hj9 (fun h => absurd h h9')
     have K1 := Aside0.mk k1
     have K2 := Aside0.mk k2
     have K3 := Aside0.mk k3
     have HA' : Aside0 (Spec.takeL 0 0 L = Spec.takeL (j + 1) (acc + (c - 128) * 128 ^ j) (L.drop (j + 1))) := ⟨HA.out.trans (by rw [HDR.out]; exact Spec.takeL_more j acc c _ h9' hc128)⟩
     clear h9 k1 k2 k3
     go_wp2
     go_round
     case rel => exact ⟨_, j + 1, by rw [K1.out], by go_num, by omega, by omega, K3.out, K2.out, HA'⟩
     case measure => simp [intOf]; omega
    ·have hr9 : j = 9 → c ≤ 1 := fun h => by have := h9; omega
     have t2 : decide (c ≥ 128) = false := decide_eq_false hc128
     have t3 : decide (128 ≤ c) = false := decide_eq_false hc128
     by_cases hz : c = 0 ∧ 0 < j
     ·obtain ⟨rfl, hj0⟩ := hz
      obtain ⟨rfl, rfl, rfl⟩ := HTe.out _ _ _ (HA.out.trans ((congrArg (Spec.takeL _ acc) HDR.out).trans (Spec.takeL_zero j acc _ hj0))) (by decide)
      have t4 : decide ((j : Int) > 0) = true := decide_eq_true (by omega)
      have t5 : decide (0 < j) = true := decide_eq_true hj0
      by_cases e9 : j = 9
      ·have t1 : ((j : Int) == 9) = true := beq_iff_eq.mpr (by omega)
       clear h9 hr9 e9
       go_wp2
       go_ret3
       exact ⟨rfl, Drawn0.refl _⟩
      ·have t1 : ((j : Int) == 9) = false := beq_eq_false_iff_ne.mpr (by omega)
       clear h9 hr9
       go_wp2
       go_ret3
       exact ⟨rfl, Drawn0.refl _⟩
     ·obtain ⟨e1, e2, e3⟩ := HTo.out _ _ (HA.out.trans ((congrArg (Spec.takeL _ acc) HDR.out).trans (Spec.takeL_end j acc c _ hr9 (by omega) (fun h => by have := hz; omega))))
      obtain ⟨k1, _, k3, _⟩ := Spec.or_step acc c j ha0 ha1 hc0' (by omega) hj9 hr9
      have K1 := Aside0.mk (k1.trans e1)
      have K2 := Aside0.mk e2
      subst e3
      clear k1 k3 e1 e2
      by_cases hc00 : c = 0
      ·have hj0 : ¬ 0 < j := by omega
       have t4 : decide ((j : Int) > 0) = false := decide_eq_false (by omega)
       have t5 : decide (0 < j) = false := decide_eq_false hj0
       have t1 : ((j : Int) == 9) = false := beq_eq_false_iff_ne.mpr (by omega)
       have t6 : (c == 0) = true := beq_iff_eq.mpr hc00
       clear h9 hr9 hz hj0 hc00
       go_wp2
       go_ret3
       exact ⟨ret3 K1.out (by have := K2.out; omega), Drawn0.refl _⟩
      ·have t6 : (c == 0) = false := beq_eq_false_iff_ne.mpr hc00
       by_cases e9 : j = 9
       ·have t1 : ((j : Int) == 9) = true := beq_iff_eq.mpr (by omega)
        have t7 : decide (c > 1) = false := decide_eq_false (by have := hr9 e9; omega)
        have t8 : decide (1 < c) = false := decide_eq_false (by have := hr9 e9; omega)
        clear h9 hr9 hz hc00 e9
        go_wp2
        go_ret3
        exact ⟨ret3 K1.out (by have := K2.out; omega), Drawn0.refl _⟩
       ·have t1 : ((j : Int) == 9) = false := beq_eq_false_iff_ne.mpr (by omega)
        clear h9 hr9 hz hc00
        go_wp2
        go_ret3
        exact ⟨ret3 K1.out (by have := K2.out; omega), Drawn0.refl _⟩
  ·obtain rfl : j = L.length := by omega
   obtain ⟨rfl, rfl, rfl⟩ := HTe.out _ _ _ (HA.out.trans ((congrArg (Spec.takeL _ acc) List.drop_length).trans rfl)) (by decide)
   have t1 : decide (L.length < L.length) = false := decide_eq_false (by omega)
   clear hlt
   go_wp2
   go_ret3
   exact ⟨rfl, Drawn0.refl _⟩
set_option maxHeartbeats 8000000 in
set_option maxRecDepth 100000 in
theorem take_out (A0 : Option Addr) (c0 : Nat) (l0 : List Int) (a1 : Int) (w : World) (h : a1 < 0 ∨ a1 > l0.length) :
  Calls Try.prog 55 #[.slice A0 l0.length c0, .int .i64 a1] w fun e w' => e = .returned (.tuple #[.int .u64 0, .int .i64 0, .int .i64 2]) ∧ Drawn0 w w' := by
 by_cases h1 : a1 < 0
 ·have d1 : decide (a1 < 0) = true := decide_eq_true h1
  clear h
  go_enter Try.func55, Try.ntmps55
  go_wp2
  go_ret3
  exact ⟨rfl, Drawn0.refl _⟩
 ·have h2 : a1 > (l0.length : Int) := by omega
  have d1 : decide (a1 < 0) = false := decide_eq_false h1
  have d2 : decide (a1 > (l0.length : Int)) = true := decide_eq_true h2
  have d3 : decide ((l0.length : Int) < a1) = true := decide_eq_true h2
  clear h
  go_enter Try.func55, Try.ntmps55
  go_wp2
  go_ret3
  exact ⟨rfl, Drawn0.refl _⟩
theorem take_all (A0 : Option Addr) (c0 : Nat) (l0 : List Int) (a1 : Int) (w : World) (hr0 : Kd.C (Kd.int .u8) w A0 l0.length l0) (hc0 : l0.length ≤ c0) (hby : ∀ x ∈ l0, 0 ≤ x ∧ x < 256) :
  Calls Try.prog 55 #[.slice A0 l0.length c0, .int .i64 a1] w fun e w' => e = .returned (.tuple #[.int .u64 (Spec.take l0 a1).1, .int .i64 (Spec.take l0 a1).2.1, .int .i64 (Spec.take l0 a1).2.2]) ∧ Drawn0 w w' := by
 by_cases h : a1 < 0 ∨ a1 > l0.length
 ·have e : Spec.take l0 a1 = (0, 0, 2) := by unfold Spec.take; rw [if_pos h]
  rw [e]
  exact take_out A0 c0 l0 a1 w h
 ·exact take_calls A0 c0 l0 a1 w hr0 hc0 hby (by omega) (by omega)
end Go.Proofs.Ytccjdefhieilpaa
