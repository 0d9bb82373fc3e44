/-
  Written by hand: the walk of VaultOpens.
-/
import Derived.Test.YtccjdefhieilpaaVB
import Derived.Test.YtccjdefhieilpaaLogRead
namespace Go.Proofs.Ytccjdefhieilpaa.VT
open Go.RowKit Go.Proofs.YtccjdefhieilpaaW.PrintWords Go.Proofs.YtccjdefhieilpaaW.PrintLast Go.Proofs.YtccjdefhieilpaaW.PrintMore Go.Proofs.Ytccjdefhieilpaa.PB Go.Proofs.Ytccjdefhieilpaa.PL Go.Proofs.Ytccjdefhieilpaa.PG Go.Proofs.Ytccjdefhieilpaa.Pure
attribute [local go_sem] max2_int min2_int max_two min_two max_three min_three max_four min_four   -- for this text's walks alone
set_option linter.unusedVariables false
set_option linter.unusedSimpArgs false
theorem lay_both (n : Nat) (b m : List Int) (h : b.length + m.length = n) : layL (layL (List.replicate n 0) 0 b) b.length m = b ++ m := by
  have h1 : layL (List.replicate n 0) 0 b = b ++ List.replicate m.length 0 := by
    unfold layL
    rw [List.take_zero, List.nil_append, List.drop_replicate]
    congr 2
    omega
  rw [h1]
  unfold layL
  rw [List.take_left' rfl, List.drop_eq_nil_of_le (by rw [List.length_append, List.length_replicate]; omega), List.append_nil]
set_option maxHeartbeats 16000000 in
set_option maxRecDepth 100000 in
theorem opens_calls (w : World) (A0 : Option Addr) (c0 : Nat) (b : List Int) (A1 : Option Addr) (c1 : Nat) (m : List Int) (hC0 : (Kd.int .u8).C w A0 b.length b) (hc0 : b.length ≤ c0) (hC1 : (Kd.int .u8).C w A1 m.length m) (hc1 : m.length ≤ c1) (hb0 : Bytes b) (hb1 : Bytes m) (hl0 : b.length ≤ 140737488351232) (hl1 : m.length ≤ 140737488351232) :
    Calls Try.prog 28 #[.slice A0 b.length c0, .slice A1 m.length c1] w fun e w' => e = .returned (.bool true) ∧ Below w.heap.size w w' := by
  have hw : wrap64 ((b.length : Int) + (m.length : Int)) = ((b.length + m.length : Nat) : Int) := by unfold wrap64; omega
  have HF0 := Aside0.mk (Kd.C_F (Kd.heap_int .u8) hC0)
  have HF1 := Aside0.mk (Kd.C_F (Kd.heap_int .u8) hC1)
  have HC0 := Aside0.mk hc0
  have HC1 := Aside0.mk hc1
  have HBY := Aside0.mk (hb0.append hb1)
  have HB := Aside0.mk (Below.refl w.heap.size w)
  clear hC0 hc0 hC1 hc1 hb0 hb1 hl0 hl1
  obtain ⟨n, hn⟩ : ∃ n, n = b.length + m.length := ⟨_, rfl⟩
  rw [← hn] at hw
  have HN := Aside0.mk hn
  by_cases c1' : (n : Int) < 1
  · have cb1 : decide ((n : Int) < 1) = true := decide_eq_true c1'
    have q1 : (n = 0) = True := eq_true (by omega)
    clear hn
    go_enter Try.func28, Try.ntmps28
    go_wp2_with fail
    refine (heads_calls _).mono ?_
    rintro e w1 ⟨rfl, hb⟩
    have HB1 := Aside0.mk hb
    clear hb
    go_wp2_with fail
    go_ret
    exact ⟨rfl, HB1.out⟩
  · have cb1 : decide ((n : Int) < 1) = false := decide_eq_false c1'
    by_cases c2' : (5000 : Int) < (n : Int)
    · have cb2 : decide ((5000 : Int) < (n : Int)) = true := decide_eq_true c2'
      clear hn
      go_enter Try.func28, Try.ntmps28
      go_wp2_with fail
      refine (heads_calls _).mono ?_
      rintro e w1 ⟨rfl, hb⟩
      have HB1 := Aside0.mk hb
      clear hb
      go_wp2_with fail
      go_ret
      exact ⟨rfl, HB1.out⟩
    · have cb2 : decide ((5000 : Int) < (n : Int)) = false := decide_eq_false c2'
      have h1 : 1 ≤ n := by omega
      have h2 : n ≤ 5000 := by omega
      have H1 := Aside0.mk h1
      have H2 := Aside0.mk h2
      clear hn
      go_enter Try.func28, Try.ntmps28
      go_wp2_with fail
      refine (new_calls w n H1.out (by have := H2.out; omega)).mono ?_
      rintro e w1 ⟨gd, Sd, rfl, hd, hs, hb⟩
      have HD1 := Aside0.mk hd
      have HS1 := Aside0.mk hs
      have HB1 := Aside0.mk hb
      have G0 := Aside0.mk (Kd.F_mono (Kd.F_below HF0.out hb) (ok' := fun k => ¬ Sd k) (fun k hk h => by have := hs k h; omega))
      have G1 := Aside0.mk (Kd.F_mono (Kd.F_below HF1.out hb) (ok' := fun k => ¬ Sd k) (fun k hk h => by have := hs k h; omega))
      clear hd hs hb c1' c2' h1 h2
      go_wp2_with fail
      refine (write_calls HD1.out 0 A0 c0 b G0.out HC0.out (Nat.zero_le _)).mono ?_
      rintro e w2 ⟨rfl, hw2, Sd2, hd2, hs2⟩
      have hz : (newD n).b.length = n := List.length_replicate ..
      have e1 : writeD (newD n) 0 b = (⟨List.replicate n 0, [⟨0, b⟩], false, 0⟩, 0) := writeD_ok rfl rfl (by rw [hz]; have := H2.out; omega) (Int.le_refl _) (by rw [hz]; have := HN.out; omega)
      rw [e1] at hd2 ⊢
      have HD2 := Aside0.mk hd2
      have HB2 := Aside0.mk (HB1.out.trans (hw2.to_below HB1.out.size HS1.out))
      have HS2 := Aside0.mk (show ∀ k, Sd2 k → w.heap.size ≤ k from fun k hk => (hs2 k hk).elim (HS1.out k) (fun h => Nat.le_trans HB1.out.size h))
      clear hw2 hd2 hs2 e1 hz
      go_wp2_with fail
      refine (flush_calls HD2.out).mono ?_
      rintro e w3 ⟨rfl, hd3, hw3⟩
      have e1 : flushD (⟨List.replicate n 0, [⟨0, b⟩], false, 0⟩ : D) = (⟨layL (List.replicate n 0) 0 b, [], false, 0⟩, 0) := flushD_ok rfl rfl (by show (List.replicate n (0 : Int)).length ≤ _; rw [List.length_replicate]; have := H2.out; omega)
      rw [e1] at hd3 ⊢
      have HD3 := Aside0.mk hd3
      have HB3 := Aside0.mk (HB2.out.trans (hw3.to_below HB2.out.size HS2.out))
      clear hw3 hd3 e1
      go_wp2_with fail
      have G3 := Aside0.mk (Kd.F_mono (Kd.F_step HF1.out (fun k hk _ => HB3.out.block k hk)) (ok' := fun k => ¬ Sd2 k) (fun k hk h => by have := HS2.out k h; omega))
      refine (write_calls HD3.out (b.length : Int) A1 c1 m G3.out HC1.out (Nat.zero_le _)).mono ?_
      rintro e w4 ⟨rfl, hw4, Sd4, hd4, hs4⟩
      have hz : (layL (List.replicate n 0) 0 b).length = n := by
        rw [layL_length _ _ _ (by rw [List.length_replicate]; have := HN.out; omega), List.length_replicate]
      have e1 : writeD (⟨layL (List.replicate n 0) 0 b, [], false, 0⟩ : D) (b.length : Int) m = (⟨layL (List.replicate n 0) 0 b, [⟨(b.length : Int), m⟩], false, 0⟩, 0) := writeD_ok rfl rfl (by show (layL (List.replicate n 0) 0 b).length ≤ _; rw [hz]; have := H2.out; omega) (by omega) (by show _ ≤ (((layL (List.replicate n 0) 0 b).length : Nat) : Int); rw [hz]; have := HN.out; omega)
      rw [e1] at hd4 ⊢
      have HD4 := Aside0.mk hd4
      have HB4 := Aside0.mk (HB3.out.trans (hw4.to_below HB3.out.size HS2.out))
      have HZ := Aside0.mk hz
      have HL := Aside0.mk (lay_both n b m HN.out.symm)
      have HS4 := Aside0.mk (show ∀ k, Sd4 k → w.heap.size ≤ k from fun k hk => (hs4 k hk).elim (HS2.out k) (fun h => Nat.le_trans HB3.out.size h))
      clear hw4 hd4 hs4 e1 hz
      go_wp2_with fail
      have hla : layAll (layL (List.replicate n 0) 0 b) [⟨(b.length : Int), m⟩] = b ++ m := HL.out
      refine (open_calls HD4.out rfl (by rw [hla]; exact HBY.out)).mono ?_
      rintro e w5 ⟨g, S, rfl, hB5, hs5, hb5⟩
      rw [hla] at hB5
      have H5 := Aside0.mk hB5
      have HB5 := Aside0.mk (below_step HB4.out hb5)
      have C05 := Aside0.mk (Kd.F_now (Kd.F_step HF0.out (fun k hk _ => HB5.out.block k hk)))
      have C15 := Aside0.mk (Kd.F_now (Kd.F_step HF1.out (fun k hk _ => HB5.out.block k hk)))
      clear hB5 hs5 hb5 hla
      have hnl : n ≤ 5000 := H2.out
      have hnn := HN.out
      obtain ⟨x, hx⟩ : ∃ x, x = b ++ m := ⟨_, rfl⟩
      have hxl : x.length = n := by rw [hx, List.length_append]; omega
      obtain ⟨kr, hkr⟩ : ∃ kr, 11 * x.length + 80 ≤ kr := ⟨_, Nat.le_refl _⟩
      have HBX := Aside0.mk (show Bytes x by rw [hx]; exact HBY.out)
      have HRE := Aside0.mk (rread_eq kr x HBX.out (by omega) hkr)
      have HLN := Aside0.mk (Nat.le_trans (framesS_seven (readS x)) (Nat.le_of_eq (readN_frames x HBX.out).symm))
      have HLE := Aside0.mk (readN_le x HBX.out)
      have HDA := Aside0.mk (readS_datas x HBX.out)
      have HRI := Aside0.mk (readS_rights x HBX.out)
      rw [← hx] at H5
      have HX := Aside0.mk hx
      have HXL := Aside0.mk hxl
      generalize readS x = l at *
      generalize readN x = q at *
      clear hkr hx hxl hnl hnn
      go_wp2_with (first | ((with_reducible refine gate_dst (N := 52) rfl ?_); refine lit_event ?hg (N := 52) ?hd (cs := #[]) (t := 5) (m := 0) ?hr ?_; (case hd => rfl); (case hg => rfl); (case hr => first | (go_simp; done) | (go_simp; rfl)); intro gl hgl w6 hl6 hb6; have HL6 := Aside0.mk hl6; have GB := Aside0.mk hb6; have GL := Aside0.mk (show w5.heap.size ≤ gl by rw [hgl]; exact Nat.le_refl _); have C06 := Aside0.mk (Kd.C_below C05.out hb6); clear hl6 hb6 hgl) | ((with_reducible refine gate_builtin (b := .append) (xs := #[.tmp 52, .tmp 53]) rfl ?_); at_builtin; refine bytes_copy (w0 := w5) rfl (.tmp 52) (.tmp 53) rfl gl A0 c0 b rfl rfl HL6.out GL.out GB.out C06.out (by have := H2.out; have := HN.out; omega) ?_; intro v7 w7 hr7 hb7; have HR7 := Aside0.mk hr7; have HB7 := Aside0.mk hb7; clear hr7 hb7) | ((with_reducible refine gate_builtin (b := .append) (xs := #[.tmp 54, .tmp 55]) rfl ?_); at_builtin; refine Kd.R_append_rows (Kd.int .u8) (w0 := w5) w5.heap.size rfl (.tmp 54) (.tmp 55) 44 5 (.int .u8 0) 1 rfl Try.underlying44 PL.info5 rfl (by decide) (by omega) v7 b m A1 m.length c1 (fun k => w5.heap.size ≤ k) (fun _ => False) rfl rfl HR7.out (Kd.C_below C15.out HB7.out) (fun _ _ h => h) (fun _ h => h.elim) (fun k hk => Nat.le_trans HB7.out.size hk) HB7.out HB7.out.size (by have := H2.out; have := HN.out; omega) ?_; intro v8 w8 hr8 hb8 _ _; rw [← HX.out] at hr8; obtain ⟨A8, c8, hv8, hc8, hC8⟩ := Kd.R_reads hr8; subst hv8; have C8 := Aside0.mk hC8; have CC8 := Aside0.mk hc8; have HB8 := Aside0.mk hb8; clear hr8 hb8 hC8 hc8))
      refine (horariumref47_Read.calls kr A8 c8 x l (q : Int) _ C8.out CC8.out HRE.out).mono ?_
      rintro e w9 ⟨v9, rfl, hr9, hb9⟩
      obtain ⟨A9, c9, hv9, hc9, hC9⟩ := lent68_reads hr9 hb9
      subst hv9
      have H9 := Aside0.mk ((H5.out.below HB8.out).below hb9)
      have HB9 := Aside0.mk (below_step (below_step HB5.out HB8.out) hb9)
      have C9 := Aside0.mk hC9
      have CC9 := Aside0.mk hc9
      clear hr9 hb9 hC9 hc9
      go_wp2_with fail
      refine (entries_calls H9.out.vlt (by have := HLN.out; have := HLE.out; have := HXL.out; have := H2.out; show l.length ≤ 1000000; omega) (fun y hy => (HRI.out y hy).2.2)).mono ?_
      rintro e w10 ⟨u10, rfl, hu10, hb10⟩
      obtain ⟨A10, c10, hu⟩ := Kd.S_slice hu10
      subst hu
      have U10 := Aside0.mk hu10
      have H10 := Aside0.mk (H9.out.below hb10)
      have HB10 := Aside0.mk (below_step HB9.out hb10)
      have C10 := Aside0.mk (Kd.C_below C9.out hb10)
      clear hu10 hb10
      obtain ⟨ks, hks⟩ : ∃ ks, l.length + 2 ≤ ks := ⟨_, Nat.le_refl _⟩
      have hsame := Aside0.mk (show horariumref47_Same.f ks l l = some true from (rsame_eq ks l l HDA.out HDA.out (by have := HLN.out; have := HLE.out; have := HXL.out; have := H2.out; omega) hks).trans (congrArg some (decide_eq_true rfl)))
      clear hks
      go_wp2_with fail
      refine (horariumref47_Same.calls ks A10 c10 l A9 c9 l true _ (Kd.S_reads' U10.out).2.2 (Kd.S_reads' U10.out).2.1 C10.out CC9.out hsame.out).mono ?_
      rintro e w11 ⟨rfl, hd11⟩
      have H11 := Aside0.mk (H10.out.below hd11.below)
      have HB11 := Aside0.mk (below_step HB10.out hd11.below)
      clear hd11
      go_wp2_with fail
      refine (room_calls H11.out.dev H11.out.vlt).mono ?_
      rintro e w12 ⟨rfl, hb12⟩
      have HB12 := Aside0.mk (below_step HB11.out hb12)
      have hrm : wrap64 (((layL (List.replicate n 0) 0 b).length : Int) - (q : Int)) = wrap64 ((n : Int) - (q : Int)) := by rw [HZ.out]
      rw [show (⟨layL (List.replicate n 0) 0 b, [⟨(b.length : Int), m⟩], false, 0⟩ : D).b = layL (List.replicate n 0) 0 b from rfl, show (⟨l, (q : Int), false⟩ : V).en = (q : Int) from rfl, hrm]
      clear hb12 hrm
      go_wp2_with fail
      refine (heads_calls _).mono ?_
      rintro e w13 ⟨rfl, hb13⟩
      have HB13 := Aside0.mk (below_step HB12.out hb13)
      clear hb13
      go_wp2_with fail
      go_ret
      exact ⟨rfl, HB13.out⟩
end Go.Proofs.Ytccjdefhieilpaa.VT
