/-
  Written by hand (the rows that repeat by a program): the walk of VaultAgain.
-/
import Derived.Test.YtccjdefhieilpaaVGot
import Derived.Test.YtccjdefhieilpaaVRows
import Derived.Test.YtccjdefhieilpaaPGx4
namespace Go.Proofs.Ytccjdefhieilpaa.VT
open Go.RowKit Go.Proofs.YtccjdefhieilpaaW.PrintWords Go.Proofs.YtccjdefhieilpaaW.PrintLast Go.Proofs.YtccjdefhieilpaaW.PrintMore Go.Proofs.Ytccjdefhieilpaa.PB Go.Proofs.Ytccjdefhieilpaa.PL Go.Proofs.Ytccjdefhieilpaa.PG Go.Proofs.Ytccjdefhieilpaa.Pure
attribute [local go_sem] max2_int min2_int max_two min_two max_three min_three max_four min_four   -- for this text's walks alone
set_option linter.unusedVariables false
set_option linter.unusedSimpArgs false
theorem Both.kept {Sd S S' : Nat → Prop} {w w' : World} {gd g : Nat} {d : D} {v : V} (h : Both Sd S w gd g d v) (hk : Kept w w' S') (hs : ∀ k, S k ∨ Sd k → ¬ S' k) : Both Sd S w' gd g d v := ⟨h.dev.kept hk (fun k hk' => hs k (.inr hk')), h.vlt.kept hk (fun k hk' => hs k (.inl hk')), h.apart⟩
theorem Both.lt {Sd S : Nat → Prop} {w : World} {gd g : Nat} {d : D} {v : V} (h : Both Sd S w gd g d v) : ∀ k, S k ∨ Sd k → k < w.heap.size := fun k hk => hk.elim (h.vlt.lt k) (h.dev.lt k)
set_option maxHeartbeats 32000000 in
set_option maxRecDepth 100000 in
theorem again_calls (w : World) (sz : Int) (A : Option Addr) (c : Nat) (l : List S68) (sy : Bool) (hC : k68.C w A l.length l) (hc : l.length ≤ c) (hb : Datas l) :
    Calls Try.prog 29 #[.int .i64 sz, .slice A l.length c, .bool sy] w fun e w' => e = .returned (.bool true) ∧ Below w.heap.size w w' := by
  have HF := Aside0.mk (Kd.C_F (Kd.heap_iso _ (Kd.heap_pair (Kd.heap_int _) (Kd.heap_slice 5 (Kd.heap_int _)))) hC)
  have HBY := Aside0.mk hb
  have HB := Aside0.mk (Below.refl w.heap.size w)
  have hu68 := Try.underlying68
  clear hC hc hb
  by_cases c1 : sz < 1
  · have cb1 : decide (sz < 1) = true := decide_eq_true c1
    go_enter Try.func29, Try.ntmps29
    go_wp2_with fail
    refine (heads_calls _).mono ?_
    rintro e wh ⟨rfl, hb⟩
    have HBh := Aside0.mk (hb)
    clear hb
    go_wp2_with fail
    go_ret
    exact ⟨rfl, HBh.out⟩
  · have cb1 : decide (sz < 1) = false := decide_eq_false c1
    by_cases c2 : (3000 : Int) < sz
    · have cb2 : decide ((3000 : Int) < sz) = true := decide_eq_true c2
      go_enter Try.func29, Try.ntmps29
      go_wp2_with fail
      refine (heads_calls _).mono ?_
      rintro e wh ⟨rfl, hb⟩
      have HBh := Aside0.mk (hb)
      clear hb
      go_wp2_with fail
      go_ret
      exact ⟨rfl, HBh.out⟩
    · have cb2 : decide ((3000 : Int) < sz) = false := decide_eq_false c2
      obtain ⟨n, rfl⟩ : ∃ n : Nat, sz = (n : Int) := ⟨sz.toNat, by omega⟩
      have h1 : 1 ≤ n := by omega
      have h2 : n ≤ 3000 := by omega
      have H1 := Aside0.mk h1
      have H2 := Aside0.mk h2
      go_enter Try.func29, Try.ntmps29
      go_wp2_with fail
      refine (new_calls w n H1.out (by have := H2.out; omega)).mono ?_
      rintro e w1 ⟨gd, Sd0, rfl, hd, hs, hb⟩
      have HD1 := Aside0.mk hd
      have HS1 := Aside0.mk hs
      have HB1 := Aside0.mk hb
      clear hd hs hb c1 c2 h1 h2
      go_wp2_with fail
      refine (open_calls HD1.out rfl (zeros_bytes n)).mono ?_
      rintro e w2 ⟨g, S0, rfl, hB, hsS, hb2⟩
      have hv : (⟨readS (layAll (newD n).b (newD n).ws), (readN (layAll (newD n).b (newD n).ws) : Int), false⟩ : V) = ⟨[], 0, false⟩ := by
        have h := readS_zeros n
        show (⟨readS (List.replicate n 0), (readN (List.replicate n 0) : Int), false⟩ : V) = _
        rw [h.1, h.2]
        rfl
      rw [hv] at hB
      have HB2 := Aside0.mk (below_step HB1.out hb2)
      have H2' := Aside0.mk hB
      have HS2 := Aside0.mk (show ∀ k, S0 k ∨ Sd0 k → w.heap.size ≤ k from fun k hk => hk.elim (fun h => Nat.le_trans HB1.out.size (hsS k h)) (HS1.out k))
      have HI0 := Aside0.mk (Inv.new n H1.out (by have := H2.out; omega))
      have HR0 := Aside0.mk (Rows2.start w (O := fun k => S0 k ∨ Sd0 k) HS2.out HB2.out.size H2'.out.lt)
      clear hB hb2 hv hsS
      obtain ⟨M, hM1, hM2, hM3⟩ : ∃ M, M ≤ l.length ∧ M ≤ 40 ∧ (M = l.length ∨ M = 40) := by
        by_cases h : l.length ≤ 40
        · exact ⟨l.length, Nat.le_refl _, h, .inl rfl⟩
        · exact ⟨40, by omega, Nat.le_refl _, .inr rfl⟩
      have HM1 := Aside0.mk hM1
      have HM2 := Aside0.mk hM2
      have HM3 := Aside0.mk hM3
      clear hM1 hM2 hM3
      go_wp2_with fail
      go_loopg [10, 11] M (fun kq v10 v11 w' => ∃ (i : Nat) (Sd S Q : Nat → Prop) (d : D) (v : V) (t : List S68), v11 = .int .i64 (i : Int) ∧ Aside0 (i + kq = M) ∧ Aside0 (Both Sd S w' gd g d v) ∧ Aside0 (Inv d v [] t) ∧ Aside0 (d.dead = false ∧ d.fuse = 0 ∧ v.dead = false) ∧ Aside0 (Rows2 w.heap.size Q (fun k => S k ∨ Sd k) w' (.slice none 0 0) v10 [] t) ∧ Aside0 (∀ k, S k ∨ Sd k → w.heap.size ≤ k) ∧ Aside0 (Below w.heap.size w w'))
      case atStart => exact ⟨0, Sd0, S0, _, newD n, ⟨[], 0, false⟩, [], rfl, ⟨Nat.zero_add _⟩, H2', HI0, ⟨rfl, rfl, rfl⟩, HR0, HS2, HB2⟩
      case round =>
        clear H2' HI0 HR0 HS2 HB2 HD1 HS1 HB1 HB
        obtain ⟨i, Sd, S, Q, d, v, t, rfl, HK, HH, HI, HLV, HR, HS, HB⟩ := hrel
        obtain ⟨At, ct, rfl⟩ := Kd.N_slice HR.out.nt
        cases gk with
        | zero =>
          have hexit : (i < l.length → (60 : Int) = 60 ∧ (40 : Int) ≤ (i : Int)) := fun h => ⟨rfl, by have := HK.out; have := HM3.out; omega⟩
          by_cases q : i < l.length
          · have q1 := eq_true q
            have h40 := (hexit q).2
            have q2 : decide ((i : Int) < 40) = false := decide_eq_false (by omega)
            have q3 : (i < 40) = False := eq_false (by omega)
            clear q h40 hexit
            cases hsy : sy with
            | true =>
              subst hsy
              go_wp2_with fail
              refine (sync_calls HH.out.dev HH.out.vlt HH.out.apart).mono ?_
              rintro e wE ⟨rfl, hd5, hv5, hw5⟩
              have hvf : ¬ v.dead = true := by rw [HLV.out.2.2]; decide
              have hfl : flushD d = (⟨layAll d.b d.ws, [], false, 0⟩, 0) := flushD_ok HLV.out.1 HLV.out.2.1 (by have := HI.out.small; omega)
              have hdv : doneV v 0 = v := by
                unfold doneV
                rw [HLV.out.2.2]
                have := HLV.out.2.2
                cases v
                subst this
                rfl
              have hI5 := HI.out.sync
              rw [if_neg hvf, hfl] at hd5 hv5 hI5
              rw [if_neg hvf, hfl]
              have hv5 : Vlt S wE g gd (doneV v 0) := hv5
              rw [hdv] at hv5
              obtain ⟨d5, hdq⟩ : ∃ d5 : D, d5 = ⟨layAll d.b d.ws, [], false, 0⟩ := ⟨_, rfl⟩
              have hd5 : Dev Sd wE gd ⟨layAll d.b d.ws, [], false, 0⟩ := hd5
              rw [← hdq] at hd5
              have hE : Inv d5 v t [] := by
                simp only [if_neg hvf] at hI5
                have h : Inv ⟨layAll d.b d.ws, [], false, 0⟩ (doneV v 0) ([] ++ t) [] := hI5
                rw [hdv, ← hdq] at h
                exact h
              have HE := Aside0.mk hE.seen
              have HVL := Aside0.mk hE.vl
              have HVE := Aside0.mk hE.ve
              have HDD := Aside0.mk (show d5.dead = false by rw [hdq])
              have HRT := Aside0.mk hE.rs
              have HDT := Aside0.mk hE.ds
              have HCN := Aside0.mk hE.count
              have H5 := Aside0.mk (show Both Sd S wE gd g d5 v from ⟨hd5, hv5, HH.out.apart⟩)
              have HR5 := Aside0.mk (HR.out.went hw5 (O' := fun k => S k ∨ Sd k) (fun k hk => .inl hk) H5.out.lt)
              have HB5 := Aside0.mk (HB.out.trans (hw5.to_below HB.out.size HS.out))
              have HE := Aside0.mk (show readS (layAll d5.b d5.ws) = t ∧ readN (layAll d5.b d5.ws) = (framesS t).length ∧ Bytes (layAll d5.b d5.ws) by have h := hE.seen; rw [List.append_nil] at h; exact h)
              have HVL := Aside0.mk (show v.l = t by have h := hE.vl; rw [List.append_nil] at h; exact h)
              have HVE := Aside0.mk (show v.en = ((framesS t).length : Int) by have h := hE.ve; rw [List.append_nil] at h; exact h)
              have HCN := Aside0.mk (show t.length ≤ 20000 by have h := hE.count; simp only [List.length_nil] at h; omega)
              clear hw5 hd5 hv5 hvf hfl hdv hI5 hE hdq
              go_wp2_with fail
              refine (entries_calls H5.out.vlt (by rw [HVL.out]; have := HCN.out; omega) (fun y hy => by rw [HVL.out] at hy; exact (HRT.out y hy).2.2)).mono ?_
              rintro e w7 ⟨u7, rfl, hu7, hb7⟩
              rw [HVL.out] at hu7
              obtain ⟨A7, c7, hu⟩ := Kd.S_slice hu7
              subst hu
              have HU7 := Aside0.mk hu7
              have H7 := Aside0.mk (H5.out.below hb7)
              have HB7 := Aside0.mk (below_step HB5.out hb7)
              have HR7 := Aside0.mk (HR5.out.below hb7)
              have L7 := Aside0.mk hb7
              clear hu7 hb7
              obtain ⟨ks, hks⟩ : ∃ ks, t.length + 2 ≤ ks := ⟨_, Nat.le_refl _⟩
              have hsame := Aside0.mk (show horariumref47_Same.f ks t t = some true from (rsame_eq ks t t HDT.out HDT.out (by have := HCN.out; omega) hks).trans (congrArg some (decide_eq_true rfl)))
              clear hks
              go_wp2_with fail
              refine (horariumref47_Same.calls ks A7 c7 t At ct t true _ (Kd.S_reads' HU7.out).2.2 (Kd.S_reads' HU7.out).2.1 (Kd.N_reads' HR7.out.nt).2.2 (Kd.N_reads' HR7.out.nt).2.1 hsame.out).mono ?_
              rintro e w8 ⟨rfl, hd8⟩
              have hb8 := hd8.below
              have L8 := Aside0.mk (below_step L7.out hb8)
              have HU8 := Aside0.mk (Kd.S_below HU7.out hb8)
              clear hd8 hb8 HB7 HR7 H7 HU7 L7
              have HG8 := Aside0.mk (show 0 < t.length → ∃ ad7, A7 = some ad7 ∧ GotOk wE.heap.size w8 ad7 t.length from got_of_S HU8.out (fun y hy => (HRT.out y hy).2.2))
              have hxx := Aside0.mk hsame.out
              clear HU8
              go_wp2_with fail
              go_loopg [13] t.length (fun kq v13 w' => ∃ (j : Nat), v13 = .int .i64 (j : Int) ∧ Aside0 (j + kq = t.length) ∧ Aside0 (0 < t.length → ∃ ad7, A7 = some ad7 ∧ GotOk wE.heap.size w' ad7 t.length) ∧ Aside0 (Below wE.heap.size wE w'))
              case atStart => exact ⟨0, rfl, ⟨Nat.zero_add _⟩, HG8, L8⟩
              case round =>
                clear HG8 L8
                obtain ⟨j, rfl, JK, JG, JL⟩ := hrel
                cases gk with
                | zero =>
                  have hjn : j = t.length := by have := JK.out; omega
                  have q1 : (j < t.length) = False := eq_false (by omega)
                  have H9 := Aside0.mk (H5.out.below JL.out)
                  have HR9 := Aside0.mk (HR5.out.below JL.out)
                  have HB9 := Aside0.mk (below_step HB5.out JL.out)
                  clear hjn
                  go_wp2_with fail
                  refine (open_calls H9.out.dev HDD.out HE.out.2.2).mono ?_
                  rintro e wA ⟨gA, SA, rfl, hBA, _, hbA⟩
                  rw [HE.out.1, HE.out.2.1] at hBA
                  have HA := Aside0.mk hBA
                  have H10 := Aside0.mk (H9.out.below hbA)
                  have HR10 := Aside0.mk (HR9.out.below hbA)
                  have HB10 := Aside0.mk (below_step HB9.out hbA)
                  clear hBA hbA
                  go_wp2_with fail
                  refine (entries_calls HA.out.vlt (by show t.length ≤ 1000000; have := HCN.out; omega) (fun y hy => (HRT.out y hy).2.2)).mono ?_
                  rintro e wB ⟨uB, rfl, huB, hbB⟩
                  obtain ⟨AB, cB, hu⟩ := Kd.S_slice huB
                  subst hu
                  have HUB := Aside0.mk huB
                  have HA11 := Aside0.mk (HA.out.below hbB)
                  have H11 := Aside0.mk (H10.out.below hbB)
                  have HR11 := Aside0.mk (HR10.out.below hbB)
                  have HB11 := Aside0.mk (below_step HB10.out hbB)
                  clear huB hbB
                  go_wp2_with fail
                  refine (horariumref47_Same.calls ks AB cB t At ct t true _ (Kd.S_reads' HUB.out).2.2 (Kd.S_reads' HUB.out).2.1 (Kd.N_reads' HR11.out.nt).2.2 (Kd.N_reads' HR11.out.nt).2.1 hsame.out).mono ?_
                  rintro e wC ⟨rfl, hdC⟩
                  have hbC := hdC.below
                  have HA12 := Aside0.mk (HA11.out.below hbC)
                  have H12 := Aside0.mk (H11.out.below hbC)
                  have HR12 := Aside0.mk (HR11.out.below hbC)
                  have HB12 := Aside0.mk (below_step HB11.out hbC)
                  clear hdC hbC
                  go_wp2_with fail
                  refine (entries_calls H12.out.vlt (by rw [HVL.out]; have := HCN.out; omega) (fun y hy => by rw [HVL.out] at hy; exact (HRT.out y hy).2.2)).mono ?_
                  rintro e wD ⟨uD, rfl, huD, hbD⟩
                  rw [HVL.out] at huD
                  obtain ⟨AD, cD, hu⟩ := Kd.S_slice huD
                  subst hu
                  have HUD := Aside0.mk huD
                  have HA13 := Aside0.mk (HA12.out.below hbD)
                  have H13 := Aside0.mk (H12.out.below hbD)
                  have HR13 := Aside0.mk (HR12.out.below hbD)
                  have HB13 := Aside0.mk (below_step HB12.out hbD)
                  clear huD hbD
                  go_wp2_with fail
                  refine (horariumref47_Same.calls ks AD cD t At ct t true _ (Kd.S_reads' HUD.out).2.2 (Kd.S_reads' HUD.out).2.1 (Kd.N_reads' HR13.out.nt).2.2 (Kd.N_reads' HR13.out.nt).2.1 hsame.out).mono ?_
                  rintro e wF ⟨rfl, hdF⟩
                  have hbF := hdF.below
                  have HA14 := Aside0.mk (HA13.out.below hbF)
                  have H14 := Aside0.mk (H13.out.below hbF)
                  have HB14 := Aside0.mk (below_step HB13.out hbF)
                  clear hdF hbF
                  go_wp2_with fail
                  refine (room_calls HA14.out.dev HA14.out.vlt).mono ?_
                  rintro e wG ⟨rfl, hbG⟩
                  have H15 := Aside0.mk (H14.out.below hbG)
                  have HB15 := Aside0.mk (below_step HB14.out hbG)
                  clear hbG
                  go_wp2_with fail
                  refine (room_calls H15.out.dev H15.out.vlt).mono ?_
                  rintro e wH ⟨rfl, hbH⟩
                  rw [HVE.out]
                  have HB16 := Aside0.mk (below_step HB15.out hbH)
                  clear hbH
                  go_wp2_with fail
                  refine (heads_calls _).mono ?_
                  rintro e wh ⟨rfl, hb⟩
                  have HBh := Aside0.mk (below_step HB16.out hb)
                  clear hb
                  go_wp2_with fail
                  go_ret
                  exact ⟨rfl, HBh.out⟩
                | succ j1 =>
                  have hjn : j < t.length := by have := JK.out; omega
                  have hj5 := HCN.out
                  obtain ⟨ad7, hA7, hg⟩ := JG.out (by omega)
                  subst hA7
                  have p0 : ((0 : Int) ≤ (j : Int)) = True := eq_true (by omega)
                  have q1 : (j < t.length) = True := eq_true hjn
                  obtain ⟨B7, n7, c7b, hd1, hn7, _⟩ := hg.data j hjn
                  have HG := Aside0.mk hg
                  have HN7 := Aside0.mk hn7
                  have hj2 := Aside0.mk hjn
                  have HD1 := Aside0.mk hd1
                  clear hg hn7 hjn hj5 JG hd1
                  go_wp2_with fail
                  go_loopg [14] n7 (fun kq v14 w' => ∃ (q : Nat), v14 = .int .i64 (q : Int) ∧ Aside0 (q + kq = n7) ∧ Aside0 (GotOk wE.heap.size w' ad7 t.length) ∧ Aside0 (w'.cell? ⟨(ad7.add (j * 2)).block, (ad7.add (j * 2)).off + 1, none⟩ = some (.slice B7 n7 c7b)) ∧ Aside0 (Below wE.heap.size wE w'))
                  case atStart => exact ⟨0, rfl, ⟨Nat.zero_add _⟩, HG, HD1, JL⟩
                  case round =>
                    clear HG HD1 JL
                    obtain ⟨q, rfl, QK, QG, QD, QL⟩ := hrel
                    have hd1 := QD.out
                    cases gk with
                    | zero =>
                      have hq : q = n7 := by have := QK.out; omega
                      have q2 : (q < n7) = False := eq_false (by omega)
                      obtain ⟨⟨z, hz1⟩, hz2⟩ := QG.out.num j hj2.out
                      have HGG := Aside0.mk (QG.out.put64 j hj2.out 0)
                      clear hq
                      go_wp2_with (first | ((with_reducible refine gate_store (t := 3) (p := 108) rfl ?_); refine store_event (t := 3) (p := 108) (v := .const (.int .i64 0)) (w1 := (wr.setCell (ad7.add (j * 2)) (.int .i64 0))) ?hg ?ho ?hn ?hr ?_; (case ho => rfl); (case hg => rfl); (case hn => rfl); (case hr => first | (go_simp; done) | (go_simp; rfl)); intro wz hwz; have hGz := Aside0.mk (show GotOk wE.heap.size wz ad7 t.length by rw [hwz]; exact HGG.out); have hLz := Aside0.mk (show Below wE.heap.size wE wz by rw [hwz]; exact QL.out.setCell (by rw [add_block]; exact QG.out.ge) _); clear hwz hz1 hz2 hd1))
                      go_roundg j1
                      case measure => omega
                      case rel => exact ⟨j + 1, (by have h_ : wrap64 ((j : Int) + 1) = ((j + 1 : Nat) : Int) := (by have := hj2.out; have := HCN.out; unfold wrap64; omega); rw [h_]), ⟨by have := JK.out; omega⟩, ⟨fun _ => ⟨ad7, rfl, hGz.out⟩⟩, hLz⟩
                    | succ q1_ =>
                      have hq : q < n7 := by have := QK.out; omega
                      have q2 : (q < n7) = True := eq_true hq
                      have p2 : ((0 : Int) ≤ (q : Int)) = True := eq_true (by omega)
                      obtain ⟨B', n', c', he, _, hbc⟩ := QG.out.data j hj2.out
                      rw [hd1] at he
                      injection he with he
                      injection he with he1 he2 he3
                      subst he1 he2 he3
                      obtain ⟨bd, hB7, hbg, hbne, ⟨z, hz1⟩, hz2⟩ := hbc q hq
                      subst hB7
                      have HGG := Aside0.mk (QG.out.put8 (p := bd.add q) (by rw [add_block]; exact hbne) hz1 ((z + 1) % 256))
                      have HNE := Aside0.mk hbg
                      have HNB := Aside0.mk hbne
                      have hq2 := Aside0.mk hq
                      clear hq hbc hbne hbg
                      go_wp2_with (first | ((with_reducible refine gate_store (t := 5) (p := 104) rfl ?_); refine store_event (t := 5) (p := 104) (v := .tmp 103) (w1 := (wr.setCell (bd.add q) (.int .u8 ((z + 1) % 256)))) ?hg ?ho ?hn ?hr ?_; (case ho => rfl); (case hg => rfl); (case hn => rfl); (case hr => first | (go_simp; done) | (go_simp; rfl)); intro wz hwz; have hGz := Aside0.mk (show GotOk wE.heap.size wz ad7 t.length by rw [hwz]; exact HGG.out); have hLz := Aside0.mk (show Below wE.heap.size wE wz by rw [hwz]; exact QL.out.setCell (by rw [add_block]; exact HNE.out) _); have hDz := Aside0.mk (show wz.cell? ⟨(ad7.add (j * 2)).block, (ad7.add (j * 2)).off + 1, none⟩ = some (.slice (some bd) n7 c7b) by rw [hwz]; exact (World.cell?_setCell_other wr _ _ _ (fun e => HNB.out (by have e3 := congrArg Addr.block e; simp only [add_block] at e3; exact e3))).trans QD.out); clear hwz hz1 hz2 hd1))
                      go_roundg q1_
                      case measure => omega
                      case rel => exact ⟨q + 1, (by have h_ : wrap64 ((q : Int) + 1) = ((q + 1 : Nat) : Int) := (by have := hq2.out; have := HN7.out; unfold wrap64; omega); rw [h_]), ⟨by have := QK.out; omega⟩, hGz, hDz, hLz⟩
            | false =>
              subst hsy
              obtain ⟨wE, hwE⟩ : ∃ wE, wE = wr := ⟨_, rfl⟩
              subst hwE
              obtain ⟨d5, hdq⟩ : ∃ d5, d5 = d := ⟨_, rfl⟩
              subst hdq
              have H5 := HH
              have HR5 := HR
              have HB5 := HB
              have HE := Aside0.mk (show readS (layAll d5.b d5.ws) = t ∧ readN (layAll d5.b d5.ws) = (framesS t).length ∧ Bytes (layAll d5.b d5.ws) from HI.out.seen)
              have HVL := Aside0.mk (show v.l = t from HI.out.vl)
              have HVE := Aside0.mk (show v.en = ((framesS t).length : Int) from HI.out.ve)
              have HDD := Aside0.mk HLV.out.1
              have HRT := Aside0.mk HI.out.rt
              have HDT := Aside0.mk HI.out.dt
              have HCN := Aside0.mk (show t.length ≤ 20000 by have h := HI.out.count; simp only [List.length_nil] at h; omega)
              go_wp2_with fail
              refine (entries_calls H5.out.vlt (by rw [HVL.out]; have := HCN.out; omega) (fun y hy => by rw [HVL.out] at hy; exact (HRT.out y hy).2.2)).mono ?_
              rintro e w7 ⟨u7, rfl, hu7, hb7⟩
              rw [HVL.out] at hu7
              obtain ⟨A7, c7, hu⟩ := Kd.S_slice hu7
              subst hu
              have HU7 := Aside0.mk hu7
              have H7 := Aside0.mk (H5.out.below hb7)
              have HB7 := Aside0.mk (below_step HB5.out hb7)
              have HR7 := Aside0.mk (HR5.out.below hb7)
              have L7 := Aside0.mk hb7
              clear hu7 hb7
              obtain ⟨ks, hks⟩ : ∃ ks, t.length + 2 ≤ ks := ⟨_, Nat.le_refl _⟩
              have hsame := Aside0.mk (show horariumref47_Same.f ks t t = some true from (rsame_eq ks t t HDT.out HDT.out (by have := HCN.out; omega) hks).trans (congrArg some (decide_eq_true rfl)))
              clear hks
              go_wp2_with fail
              refine (horariumref47_Same.calls ks A7 c7 t At ct t true _ (Kd.S_reads' HU7.out).2.2 (Kd.S_reads' HU7.out).2.1 (Kd.N_reads' HR7.out.nt).2.2 (Kd.N_reads' HR7.out.nt).2.1 hsame.out).mono ?_
              rintro e w8 ⟨rfl, hd8⟩
              have hb8 := hd8.below
              have L8 := Aside0.mk (below_step L7.out hb8)
              have HU8 := Aside0.mk (Kd.S_below HU7.out hb8)
              clear hd8 hb8 HB7 HR7 H7 HU7 L7
              have HG8 := Aside0.mk (show 0 < t.length → ∃ ad7, A7 = some ad7 ∧ GotOk wE.heap.size w8 ad7 t.length from got_of_S HU8.out (fun y hy => (HRT.out y hy).2.2))
              have hxx := Aside0.mk hsame.out
              clear HU8
              go_wp2_with fail
              go_loopg [13] t.length (fun kq v13 w' => ∃ (j : Nat), v13 = .int .i64 (j : Int) ∧ Aside0 (j + kq = t.length) ∧ Aside0 (0 < t.length → ∃ ad7, A7 = some ad7 ∧ GotOk wE.heap.size w' ad7 t.length) ∧ Aside0 (Below wE.heap.size wE w'))
              case atStart => exact ⟨0, rfl, ⟨Nat.zero_add _⟩, HG8, L8⟩
              case round =>
                clear HG8 L8
                obtain ⟨j, rfl, JK, JG, JL⟩ := hrel
                cases gk with
                | zero =>
                  have hjn : j = t.length := by have := JK.out; omega
                  have q1 : (j < t.length) = False := eq_false (by omega)
                  have H9 := Aside0.mk (H5.out.below JL.out)
                  have HR9 := Aside0.mk (HR5.out.below JL.out)
                  have HB9 := Aside0.mk (below_step HB5.out JL.out)
                  clear hjn
                  go_wp2_with fail
                  refine (open_calls H9.out.dev HDD.out HE.out.2.2).mono ?_
                  rintro e wA ⟨gA, SA, rfl, hBA, _, hbA⟩
                  rw [HE.out.1, HE.out.2.1] at hBA
                  have HA := Aside0.mk hBA
                  have H10 := Aside0.mk (H9.out.below hbA)
                  have HR10 := Aside0.mk (HR9.out.below hbA)
                  have HB10 := Aside0.mk (below_step HB9.out hbA)
                  clear hBA hbA
                  go_wp2_with fail
                  refine (entries_calls HA.out.vlt (by show t.length ≤ 1000000; have := HCN.out; omega) (fun y hy => (HRT.out y hy).2.2)).mono ?_
                  rintro e wB ⟨uB, rfl, huB, hbB⟩
                  obtain ⟨AB, cB, hu⟩ := Kd.S_slice huB
                  subst hu
                  have HUB := Aside0.mk huB
                  have HA11 := Aside0.mk (HA.out.below hbB)
                  have H11 := Aside0.mk (H10.out.below hbB)
                  have HR11 := Aside0.mk (HR10.out.below hbB)
                  have HB11 := Aside0.mk (below_step HB10.out hbB)
                  clear huB hbB
                  go_wp2_with fail
                  refine (horariumref47_Same.calls ks AB cB t At ct t true _ (Kd.S_reads' HUB.out).2.2 (Kd.S_reads' HUB.out).2.1 (Kd.N_reads' HR11.out.nt).2.2 (Kd.N_reads' HR11.out.nt).2.1 hsame.out).mono ?_
                  rintro e wC ⟨rfl, hdC⟩
                  have hbC := hdC.below
                  have HA12 := Aside0.mk (HA11.out.below hbC)
                  have H12 := Aside0.mk (H11.out.below hbC)
                  have HR12 := Aside0.mk (HR11.out.below hbC)
                  have HB12 := Aside0.mk (below_step HB11.out hbC)
                  clear hdC hbC
                  go_wp2_with fail
                  refine (entries_calls H12.out.vlt (by rw [HVL.out]; have := HCN.out; omega) (fun y hy => by rw [HVL.out] at hy; exact (HRT.out y hy).2.2)).mono ?_
                  rintro e wD ⟨uD, rfl, huD, hbD⟩
                  rw [HVL.out] at huD
                  obtain ⟨AD, cD, hu⟩ := Kd.S_slice huD
                  subst hu
                  have HUD := Aside0.mk huD
                  have HA13 := Aside0.mk (HA12.out.below hbD)
                  have H13 := Aside0.mk (H12.out.below hbD)
                  have HR13 := Aside0.mk (HR12.out.below hbD)
                  have HB13 := Aside0.mk (below_step HB12.out hbD)
                  clear huD hbD
                  go_wp2_with fail
                  refine (horariumref47_Same.calls ks AD cD t At ct t true _ (Kd.S_reads' HUD.out).2.2 (Kd.S_reads' HUD.out).2.1 (Kd.N_reads' HR13.out.nt).2.2 (Kd.N_reads' HR13.out.nt).2.1 hsame.out).mono ?_
                  rintro e wF ⟨rfl, hdF⟩
                  have hbF := hdF.below
                  have HA14 := Aside0.mk (HA13.out.below hbF)
                  have H14 := Aside0.mk (H13.out.below hbF)
                  have HB14 := Aside0.mk (below_step HB13.out hbF)
                  clear hdF hbF
                  go_wp2_with fail
                  refine (room_calls HA14.out.dev HA14.out.vlt).mono ?_
                  rintro e wG ⟨rfl, hbG⟩
                  have H15 := Aside0.mk (H14.out.below hbG)
                  have HB15 := Aside0.mk (below_step HB14.out hbG)
                  clear hbG
                  go_wp2_with fail
                  refine (room_calls H15.out.dev H15.out.vlt).mono ?_
                  rintro e wH ⟨rfl, hbH⟩
                  rw [HVE.out]
                  have HB16 := Aside0.mk (below_step HB15.out hbH)
                  clear hbH
                  go_wp2_with fail
                  refine (heads_calls _).mono ?_
                  rintro e wh ⟨rfl, hb⟩
                  have HBh := Aside0.mk (below_step HB16.out hb)
                  clear hb
                  go_wp2_with fail
                  go_ret
                  exact ⟨rfl, HBh.out⟩
                | succ j1 =>
                  have hjn : j < t.length := by have := JK.out; omega
                  have hj5 := HCN.out
                  obtain ⟨ad7, hA7, hg⟩ := JG.out (by omega)
                  subst hA7
                  have p0 : ((0 : Int) ≤ (j : Int)) = True := eq_true (by omega)
                  have q1 : (j < t.length) = True := eq_true hjn
                  obtain ⟨B7, n7, c7b, hd1, hn7, _⟩ := hg.data j hjn
                  have HG := Aside0.mk hg
                  have HN7 := Aside0.mk hn7
                  have hj2 := Aside0.mk hjn
                  have HD1 := Aside0.mk hd1
                  clear hg hn7 hjn hj5 JG hd1
                  go_wp2_with fail
                  go_loopg [14] n7 (fun kq v14 w' => ∃ (q : Nat), v14 = .int .i64 (q : Int) ∧ Aside0 (q + kq = n7) ∧ Aside0 (GotOk wE.heap.size w' ad7 t.length) ∧ Aside0 (w'.cell? ⟨(ad7.add (j * 2)).block, (ad7.add (j * 2)).off + 1, none⟩ = some (.slice B7 n7 c7b)) ∧ Aside0 (Below wE.heap.size wE w'))
                  case atStart => exact ⟨0, rfl, ⟨Nat.zero_add _⟩, HG, HD1, JL⟩
                  case round =>
                    clear HG HD1 JL
                    obtain ⟨q, rfl, QK, QG, QD, QL⟩ := hrel
                    have hd1 := QD.out
                    cases gk with
                    | zero =>
                      have hq : q = n7 := by have := QK.out; omega
                      have q2 : (q < n7) = False := eq_false (by omega)
                      obtain ⟨⟨z, hz1⟩, hz2⟩ := QG.out.num j hj2.out
                      have HGG := Aside0.mk (QG.out.put64 j hj2.out 0)
                      clear hq
                      go_wp2_with (first | ((with_reducible refine gate_store (t := 3) (p := 108) rfl ?_); refine store_event (t := 3) (p := 108) (v := .const (.int .i64 0)) (w1 := (wr.setCell (ad7.add (j * 2)) (.int .i64 0))) ?hg ?ho ?hn ?hr ?_; (case ho => rfl); (case hg => rfl); (case hn => rfl); (case hr => first | (go_simp; done) | (go_simp; rfl)); intro wz hwz; have hGz := Aside0.mk (show GotOk wE.heap.size wz ad7 t.length by rw [hwz]; exact HGG.out); have hLz := Aside0.mk (show Below wE.heap.size wE wz by rw [hwz]; exact QL.out.setCell (by rw [add_block]; exact QG.out.ge) _); clear hwz hz1 hz2 hd1))
                      go_roundg j1
                      case measure => omega
                      case rel => exact ⟨j + 1, (by have h_ : wrap64 ((j : Int) + 1) = ((j + 1 : Nat) : Int) := (by have := hj2.out; have := HCN.out; unfold wrap64; omega); rw [h_]), ⟨by have := JK.out; omega⟩, ⟨fun _ => ⟨ad7, rfl, hGz.out⟩⟩, hLz⟩
                    | succ q1_ =>
                      have hq : q < n7 := by have := QK.out; omega
                      have q2 : (q < n7) = True := eq_true hq
                      have p2 : ((0 : Int) ≤ (q : Int)) = True := eq_true (by omega)
                      obtain ⟨B', n', c', he, _, hbc⟩ := QG.out.data j hj2.out
                      rw [hd1] at he
                      injection he with he
                      injection he with he1 he2 he3
                      subst he1 he2 he3
                      obtain ⟨bd, hB7, hbg, hbne, ⟨z, hz1⟩, hz2⟩ := hbc q hq
                      subst hB7
                      have HGG := Aside0.mk (QG.out.put8 (p := bd.add q) (by rw [add_block]; exact hbne) hz1 ((z + 1) % 256))
                      have HNE := Aside0.mk hbg
                      have HNB := Aside0.mk hbne
                      have hq2 := Aside0.mk hq
                      clear hq hbc hbne hbg
                      go_wp2_with (first | ((with_reducible refine gate_store (t := 5) (p := 104) rfl ?_); refine store_event (t := 5) (p := 104) (v := .tmp 103) (w1 := (wr.setCell (bd.add q) (.int .u8 ((z + 1) % 256)))) ?hg ?ho ?hn ?hr ?_; (case ho => rfl); (case hg => rfl); (case hn => rfl); (case hr => first | (go_simp; done) | (go_simp; rfl)); intro wz hwz; have hGz := Aside0.mk (show GotOk wE.heap.size wz ad7 t.length by rw [hwz]; exact HGG.out); have hLz := Aside0.mk (show Below wE.heap.size wE wz by rw [hwz]; exact QL.out.setCell (by rw [add_block]; exact HNE.out) _); have hDz := Aside0.mk (show wz.cell? ⟨(ad7.add (j * 2)).block, (ad7.add (j * 2)).off + 1, none⟩ = some (.slice (some bd) n7 c7b) by rw [hwz]; exact (World.cell?_setCell_other wr _ _ _ (fun e => HNB.out (by have e3 := congrArg Addr.block e; simp only [add_block] at e3; exact e3))).trans QD.out); clear hwz hz1 hz2 hd1))
                      go_roundg q1_
                      case measure => omega
                      case rel => exact ⟨q + 1, (by have h_ : wrap64 ((q : Int) + 1) = ((q + 1 : Nat) : Int) := (by have := hq2.out; have := HN7.out; unfold wrap64; omega); rw [h_]), ⟨by have := QK.out; omega⟩, hGz, hDz, hLz⟩
          · have q1 := eq_false q
            clear q hexit
            cases hsy : sy with
            | true =>
              subst hsy
              go_wp2_with fail
              refine (sync_calls HH.out.dev HH.out.vlt HH.out.apart).mono ?_
              rintro e wE ⟨rfl, hd5, hv5, hw5⟩
              have hvf : ¬ v.dead = true := by rw [HLV.out.2.2]; decide
              have hfl : flushD d = (⟨layAll d.b d.ws, [], false, 0⟩, 0) := flushD_ok HLV.out.1 HLV.out.2.1 (by have := HI.out.small; omega)
              have hdv : doneV v 0 = v := by
                unfold doneV
                rw [HLV.out.2.2]
                have := HLV.out.2.2
                cases v
                subst this
                rfl
              have hI5 := HI.out.sync
              rw [if_neg hvf, hfl] at hd5 hv5 hI5
              rw [if_neg hvf, hfl]
              have hv5 : Vlt S wE g gd (doneV v 0) := hv5
              rw [hdv] at hv5
              obtain ⟨d5, hdq⟩ : ∃ d5 : D, d5 = ⟨layAll d.b d.ws, [], false, 0⟩ := ⟨_, rfl⟩
              have hd5 : Dev Sd wE gd ⟨layAll d.b d.ws, [], false, 0⟩ := hd5
              rw [← hdq] at hd5
              have hE : Inv d5 v t [] := by
                simp only [if_neg hvf] at hI5
                have h : Inv ⟨layAll d.b d.ws, [], false, 0⟩ (doneV v 0) ([] ++ t) [] := hI5
                rw [hdv, ← hdq] at h
                exact h
              have HE := Aside0.mk hE.seen
              have HVL := Aside0.mk hE.vl
              have HVE := Aside0.mk hE.ve
              have HDD := Aside0.mk (show d5.dead = false by rw [hdq])
              have HRT := Aside0.mk hE.rs
              have HDT := Aside0.mk hE.ds
              have HCN := Aside0.mk hE.count
              have H5 := Aside0.mk (show Both Sd S wE gd g d5 v from ⟨hd5, hv5, HH.out.apart⟩)
              have HR5 := Aside0.mk (HR.out.went hw5 (O' := fun k => S k ∨ Sd k) (fun k hk => .inl hk) H5.out.lt)
              have HB5 := Aside0.mk (HB.out.trans (hw5.to_below HB.out.size HS.out))
              have HE := Aside0.mk (show readS (layAll d5.b d5.ws) = t ∧ readN (layAll d5.b d5.ws) = (framesS t).length ∧ Bytes (layAll d5.b d5.ws) by have h := hE.seen; rw [List.append_nil] at h; exact h)
              have HVL := Aside0.mk (show v.l = t by have h := hE.vl; rw [List.append_nil] at h; exact h)
              have HVE := Aside0.mk (show v.en = ((framesS t).length : Int) by have h := hE.ve; rw [List.append_nil] at h; exact h)
              have HCN := Aside0.mk (show t.length ≤ 20000 by have h := hE.count; simp only [List.length_nil] at h; omega)
              clear hw5 hd5 hv5 hvf hfl hdv hI5 hE hdq
              go_wp2_with fail
              refine (entries_calls H5.out.vlt (by rw [HVL.out]; have := HCN.out; omega) (fun y hy => by rw [HVL.out] at hy; exact (HRT.out y hy).2.2)).mono ?_
              rintro e w7 ⟨u7, rfl, hu7, hb7⟩
              rw [HVL.out] at hu7
              obtain ⟨A7, c7, hu⟩ := Kd.S_slice hu7
              subst hu
              have HU7 := Aside0.mk hu7
              have H7 := Aside0.mk (H5.out.below hb7)
              have HB7 := Aside0.mk (below_step HB5.out hb7)
              have HR7 := Aside0.mk (HR5.out.below hb7)
              have L7 := Aside0.mk hb7
              clear hu7 hb7
              obtain ⟨ks, hks⟩ : ∃ ks, t.length + 2 ≤ ks := ⟨_, Nat.le_refl _⟩
              have hsame := Aside0.mk (show horariumref47_Same.f ks t t = some true from (rsame_eq ks t t HDT.out HDT.out (by have := HCN.out; omega) hks).trans (congrArg some (decide_eq_true rfl)))
              clear hks
              go_wp2_with fail
              refine (horariumref47_Same.calls ks A7 c7 t At ct t true _ (Kd.S_reads' HU7.out).2.2 (Kd.S_reads' HU7.out).2.1 (Kd.N_reads' HR7.out.nt).2.2 (Kd.N_reads' HR7.out.nt).2.1 hsame.out).mono ?_
              rintro e w8 ⟨rfl, hd8⟩
              have hb8 := hd8.below
              have L8 := Aside0.mk (below_step L7.out hb8)
              have HU8 := Aside0.mk (Kd.S_below HU7.out hb8)
              clear hd8 hb8 HB7 HR7 H7 HU7 L7
              have HG8 := Aside0.mk (show 0 < t.length → ∃ ad7, A7 = some ad7 ∧ GotOk wE.heap.size w8 ad7 t.length from got_of_S HU8.out (fun y hy => (HRT.out y hy).2.2))
              have hxx := Aside0.mk hsame.out
              clear HU8
              go_wp2_with fail
              go_loopg [13] t.length (fun kq v13 w' => ∃ (j : Nat), v13 = .int .i64 (j : Int) ∧ Aside0 (j + kq = t.length) ∧ Aside0 (0 < t.length → ∃ ad7, A7 = some ad7 ∧ GotOk wE.heap.size w' ad7 t.length) ∧ Aside0 (Below wE.heap.size wE w'))
              case atStart => exact ⟨0, rfl, ⟨Nat.zero_add _⟩, HG8, L8⟩
              case round =>
                clear HG8 L8
                obtain ⟨j, rfl, JK, JG, JL⟩ := hrel
                cases gk with
                | zero =>
                  have hjn : j = t.length := by have := JK.out; omega
                  have q1 : (j < t.length) = False := eq_false (by omega)
                  have H9 := Aside0.mk (H5.out.below JL.out)
                  have HR9 := Aside0.mk (HR5.out.below JL.out)
                  have HB9 := Aside0.mk (below_step HB5.out JL.out)
                  clear hjn
                  go_wp2_with fail
                  refine (open_calls H9.out.dev HDD.out HE.out.2.2).mono ?_
                  rintro e wA ⟨gA, SA, rfl, hBA, _, hbA⟩
                  rw [HE.out.1, HE.out.2.1] at hBA
                  have HA := Aside0.mk hBA
                  have H10 := Aside0.mk (H9.out.below hbA)
                  have HR10 := Aside0.mk (HR9.out.below hbA)
                  have HB10 := Aside0.mk (below_step HB9.out hbA)
                  clear hBA hbA
                  go_wp2_with fail
                  refine (entries_calls HA.out.vlt (by show t.length ≤ 1000000; have := HCN.out; omega) (fun y hy => (HRT.out y hy).2.2)).mono ?_
                  rintro e wB ⟨uB, rfl, huB, hbB⟩
                  obtain ⟨AB, cB, hu⟩ := Kd.S_slice huB
                  subst hu
                  have HUB := Aside0.mk huB
                  have HA11 := Aside0.mk (HA.out.below hbB)
                  have H11 := Aside0.mk (H10.out.below hbB)
                  have HR11 := Aside0.mk (HR10.out.below hbB)
                  have HB11 := Aside0.mk (below_step HB10.out hbB)
                  clear huB hbB
                  go_wp2_with fail
                  refine (horariumref47_Same.calls ks AB cB t At ct t true _ (Kd.S_reads' HUB.out).2.2 (Kd.S_reads' HUB.out).2.1 (Kd.N_reads' HR11.out.nt).2.2 (Kd.N_reads' HR11.out.nt).2.1 hsame.out).mono ?_
                  rintro e wC ⟨rfl, hdC⟩
                  have hbC := hdC.below
                  have HA12 := Aside0.mk (HA11.out.below hbC)
                  have H12 := Aside0.mk (H11.out.below hbC)
                  have HR12 := Aside0.mk (HR11.out.below hbC)
                  have HB12 := Aside0.mk (below_step HB11.out hbC)
                  clear hdC hbC
                  go_wp2_with fail
                  refine (entries_calls H12.out.vlt (by rw [HVL.out]; have := HCN.out; omega) (fun y hy => by rw [HVL.out] at hy; exact (HRT.out y hy).2.2)).mono ?_
                  rintro e wD ⟨uD, rfl, huD, hbD⟩
                  rw [HVL.out] at huD
                  obtain ⟨AD, cD, hu⟩ := Kd.S_slice huD
                  subst hu
                  have HUD := Aside0.mk huD
                  have HA13 := Aside0.mk (HA12.out.below hbD)
                  have H13 := Aside0.mk (H12.out.below hbD)
                  have HR13 := Aside0.mk (HR12.out.below hbD)
                  have HB13 := Aside0.mk (below_step HB12.out hbD)
                  clear huD hbD
                  go_wp2_with fail
                  refine (horariumref47_Same.calls ks AD cD t At ct t true _ (Kd.S_reads' HUD.out).2.2 (Kd.S_reads' HUD.out).2.1 (Kd.N_reads' HR13.out.nt).2.2 (Kd.N_reads' HR13.out.nt).2.1 hsame.out).mono ?_
                  rintro e wF ⟨rfl, hdF⟩
                  have hbF := hdF.below
                  have HA14 := Aside0.mk (HA13.out.below hbF)
                  have H14 := Aside0.mk (H13.out.below hbF)
                  have HB14 := Aside0.mk (below_step HB13.out hbF)
                  clear hdF hbF
                  go_wp2_with fail
                  refine (room_calls HA14.out.dev HA14.out.vlt).mono ?_
                  rintro e wG ⟨rfl, hbG⟩
                  have H15 := Aside0.mk (H14.out.below hbG)
                  have HB15 := Aside0.mk (below_step HB14.out hbG)
                  clear hbG
                  go_wp2_with fail
                  refine (room_calls H15.out.dev H15.out.vlt).mono ?_
                  rintro e wH ⟨rfl, hbH⟩
                  rw [HVE.out]
                  have HB16 := Aside0.mk (below_step HB15.out hbH)
                  clear hbH
                  go_wp2_with fail
                  refine (heads_calls _).mono ?_
                  rintro e wh ⟨rfl, hb⟩
                  have HBh := Aside0.mk (below_step HB16.out hb)
                  clear hb
                  go_wp2_with fail
                  go_ret
                  exact ⟨rfl, HBh.out⟩
                | succ j1 =>
                  have hjn : j < t.length := by have := JK.out; omega
                  have hj5 := HCN.out
                  obtain ⟨ad7, hA7, hg⟩ := JG.out (by omega)
                  subst hA7
                  have p0 : ((0 : Int) ≤ (j : Int)) = True := eq_true (by omega)
                  have q1 : (j < t.length) = True := eq_true hjn
                  obtain ⟨B7, n7, c7b, hd1, hn7, _⟩ := hg.data j hjn
                  have HG := Aside0.mk hg
                  have HN7 := Aside0.mk hn7
                  have hj2 := Aside0.mk hjn
                  have HD1 := Aside0.mk hd1
                  clear hg hn7 hjn hj5 JG hd1
                  go_wp2_with fail
                  go_loopg [14] n7 (fun kq v14 w' => ∃ (q : Nat), v14 = .int .i64 (q : Int) ∧ Aside0 (q + kq = n7) ∧ Aside0 (GotOk wE.heap.size w' ad7 t.length) ∧ Aside0 (w'.cell? ⟨(ad7.add (j * 2)).block, (ad7.add (j * 2)).off + 1, none⟩ = some (.slice B7 n7 c7b)) ∧ Aside0 (Below wE.heap.size wE w'))
                  case atStart => exact ⟨0, rfl, ⟨Nat.zero_add _⟩, HG, HD1, JL⟩
                  case round =>
                    clear HG HD1 JL
                    obtain ⟨q, rfl, QK, QG, QD, QL⟩ := hrel
                    have hd1 := QD.out
                    cases gk with
                    | zero =>
                      have hq : q = n7 := by have := QK.out; omega
                      have q2 : (q < n7) = False := eq_false (by omega)
                      obtain ⟨⟨z, hz1⟩, hz2⟩ := QG.out.num j hj2.out
                      have HGG := Aside0.mk (QG.out.put64 j hj2.out 0)
                      clear hq
                      go_wp2_with (first | ((with_reducible refine gate_store (t := 3) (p := 108) rfl ?_); refine store_event (t := 3) (p := 108) (v := .const (.int .i64 0)) (w1 := (wr.setCell (ad7.add (j * 2)) (.int .i64 0))) ?hg ?ho ?hn ?hr ?_; (case ho => rfl); (case hg => rfl); (case hn => rfl); (case hr => first | (go_simp; done) | (go_simp; rfl)); intro wz hwz; have hGz := Aside0.mk (show GotOk wE.heap.size wz ad7 t.length by rw [hwz]; exact HGG.out); have hLz := Aside0.mk (show Below wE.heap.size wE wz by rw [hwz]; exact QL.out.setCell (by rw [add_block]; exact QG.out.ge) _); clear hwz hz1 hz2 hd1))
                      go_roundg j1
                      case measure => omega
                      case rel => exact ⟨j + 1, (by have h_ : wrap64 ((j : Int) + 1) = ((j + 1 : Nat) : Int) := (by have := hj2.out; have := HCN.out; unfold wrap64; omega); rw [h_]), ⟨by have := JK.out; omega⟩, ⟨fun _ => ⟨ad7, rfl, hGz.out⟩⟩, hLz⟩
                    | succ q1_ =>
                      have hq : q < n7 := by have := QK.out; omega
                      have q2 : (q < n7) = True := eq_true hq
                      have p2 : ((0 : Int) ≤ (q : Int)) = True := eq_true (by omega)
                      obtain ⟨B', n', c', he, _, hbc⟩ := QG.out.data j hj2.out
                      rw [hd1] at he
                      injection he with he
                      injection he with he1 he2 he3
                      subst he1 he2 he3
                      obtain ⟨bd, hB7, hbg, hbne, ⟨z, hz1⟩, hz2⟩ := hbc q hq
                      subst hB7
                      have HGG := Aside0.mk (QG.out.put8 (p := bd.add q) (by rw [add_block]; exact hbne) hz1 ((z + 1) % 256))
                      have HNE := Aside0.mk hbg
                      have HNB := Aside0.mk hbne
                      have hq2 := Aside0.mk hq
                      clear hq hbc hbne hbg
                      go_wp2_with (first | ((with_reducible refine gate_store (t := 5) (p := 104) rfl ?_); refine store_event (t := 5) (p := 104) (v := .tmp 103) (w1 := (wr.setCell (bd.add q) (.int .u8 ((z + 1) % 256)))) ?hg ?ho ?hn ?hr ?_; (case ho => rfl); (case hg => rfl); (case hn => rfl); (case hr => first | (go_simp; done) | (go_simp; rfl)); intro wz hwz; have hGz := Aside0.mk (show GotOk wE.heap.size wz ad7 t.length by rw [hwz]; exact HGG.out); have hLz := Aside0.mk (show Below wE.heap.size wE wz by rw [hwz]; exact QL.out.setCell (by rw [add_block]; exact HNE.out) _); have hDz := Aside0.mk (show wz.cell? ⟨(ad7.add (j * 2)).block, (ad7.add (j * 2)).off + 1, none⟩ = some (.slice (some bd) n7 c7b) by rw [hwz]; exact (World.cell?_setCell_other wr _ _ _ (fun e => HNB.out (by have e3 := congrArg Addr.block e; simp only [add_block] at e3; exact e3))).trans QD.out); clear hwz hz1 hz2 hd1))
                      go_roundg q1_
                      case measure => omega
                      case rel => exact ⟨q + 1, (by have h_ : wrap64 ((q : Int) + 1) = ((q + 1 : Nat) : Int) := (by have := hq2.out; have := HN7.out; unfold wrap64; omega); rw [h_]), ⟨by have := QK.out; omega⟩, hGz, hDz, hLz⟩
            | false =>
              subst hsy
              obtain ⟨wE, hwE⟩ : ∃ wE, wE = wr := ⟨_, rfl⟩
              subst hwE
              obtain ⟨d5, hdq⟩ : ∃ d5, d5 = d := ⟨_, rfl⟩
              subst hdq
              have H5 := HH
              have HR5 := HR
              have HB5 := HB
              have HE := Aside0.mk (show readS (layAll d5.b d5.ws) = t ∧ readN (layAll d5.b d5.ws) = (framesS t).length ∧ Bytes (layAll d5.b d5.ws) from HI.out.seen)
              have HVL := Aside0.mk (show v.l = t from HI.out.vl)
              have HVE := Aside0.mk (show v.en = ((framesS t).length : Int) from HI.out.ve)
              have HDD := Aside0.mk HLV.out.1
              have HRT := Aside0.mk HI.out.rt
              have HDT := Aside0.mk HI.out.dt
              have HCN := Aside0.mk (show t.length ≤ 20000 by have h := HI.out.count; simp only [List.length_nil] at h; omega)
              go_wp2_with fail
              refine (entries_calls H5.out.vlt (by rw [HVL.out]; have := HCN.out; omega) (fun y hy => by rw [HVL.out] at hy; exact (HRT.out y hy).2.2)).mono ?_
              rintro e w7 ⟨u7, rfl, hu7, hb7⟩
              rw [HVL.out] at hu7
              obtain ⟨A7, c7, hu⟩ := Kd.S_slice hu7
              subst hu
              have HU7 := Aside0.mk hu7
              have H7 := Aside0.mk (H5.out.below hb7)
              have HB7 := Aside0.mk (below_step HB5.out hb7)
              have HR7 := Aside0.mk (HR5.out.below hb7)
              have L7 := Aside0.mk hb7
              clear hu7 hb7
              obtain ⟨ks, hks⟩ : ∃ ks, t.length + 2 ≤ ks := ⟨_, Nat.le_refl _⟩
              have hsame := Aside0.mk (show horariumref47_Same.f ks t t = some true from (rsame_eq ks t t HDT.out HDT.out (by have := HCN.out; omega) hks).trans (congrArg some (decide_eq_true rfl)))
              clear hks
              go_wp2_with fail
              refine (horariumref47_Same.calls ks A7 c7 t At ct t true _ (Kd.S_reads' HU7.out).2.2 (Kd.S_reads' HU7.out).2.1 (Kd.N_reads' HR7.out.nt).2.2 (Kd.N_reads' HR7.out.nt).2.1 hsame.out).mono ?_
              rintro e w8 ⟨rfl, hd8⟩
              have hb8 := hd8.below
              have L8 := Aside0.mk (below_step L7.out hb8)
              have HU8 := Aside0.mk (Kd.S_below HU7.out hb8)
              clear hd8 hb8 HB7 HR7 H7 HU7 L7
              have HG8 := Aside0.mk (show 0 < t.length → ∃ ad7, A7 = some ad7 ∧ GotOk wE.heap.size w8 ad7 t.length from got_of_S HU8.out (fun y hy => (HRT.out y hy).2.2))
              have hxx := Aside0.mk hsame.out
              clear HU8
              go_wp2_with fail
              go_loopg [13] t.length (fun kq v13 w' => ∃ (j : Nat), v13 = .int .i64 (j : Int) ∧ Aside0 (j + kq = t.length) ∧ Aside0 (0 < t.length → ∃ ad7, A7 = some ad7 ∧ GotOk wE.heap.size w' ad7 t.length) ∧ Aside0 (Below wE.heap.size wE w'))
              case atStart => exact ⟨0, rfl, ⟨Nat.zero_add _⟩, HG8, L8⟩
              case round =>
                clear HG8 L8
                obtain ⟨j, rfl, JK, JG, JL⟩ := hrel
                cases gk with
                | zero =>
                  have hjn : j = t.length := by have := JK.out; omega
                  have q1 : (j < t.length) = False := eq_false (by omega)
                  have H9 := Aside0.mk (H5.out.below JL.out)
                  have HR9 := Aside0.mk (HR5.out.below JL.out)
                  have HB9 := Aside0.mk (below_step HB5.out JL.out)
                  clear hjn
                  go_wp2_with fail
                  refine (open_calls H9.out.dev HDD.out HE.out.2.2).mono ?_
                  rintro e wA ⟨gA, SA, rfl, hBA, _, hbA⟩
                  rw [HE.out.1, HE.out.2.1] at hBA
                  have HA := Aside0.mk hBA
                  have H10 := Aside0.mk (H9.out.below hbA)
                  have HR10 := Aside0.mk (HR9.out.below hbA)
                  have HB10 := Aside0.mk (below_step HB9.out hbA)
                  clear hBA hbA
                  go_wp2_with fail
                  refine (entries_calls HA.out.vlt (by show t.length ≤ 1000000; have := HCN.out; omega) (fun y hy => (HRT.out y hy).2.2)).mono ?_
                  rintro e wB ⟨uB, rfl, huB, hbB⟩
                  obtain ⟨AB, cB, hu⟩ := Kd.S_slice huB
                  subst hu
                  have HUB := Aside0.mk huB
                  have HA11 := Aside0.mk (HA.out.below hbB)
                  have H11 := Aside0.mk (H10.out.below hbB)
                  have HR11 := Aside0.mk (HR10.out.below hbB)
                  have HB11 := Aside0.mk (below_step HB10.out hbB)
                  clear huB hbB
                  go_wp2_with fail
                  refine (horariumref47_Same.calls ks AB cB t At ct t true _ (Kd.S_reads' HUB.out).2.2 (Kd.S_reads' HUB.out).2.1 (Kd.N_reads' HR11.out.nt).2.2 (Kd.N_reads' HR11.out.nt).2.1 hsame.out).mono ?_
                  rintro e wC ⟨rfl, hdC⟩
                  have hbC := hdC.below
                  have HA12 := Aside0.mk (HA11.out.below hbC)
                  have H12 := Aside0.mk (H11.out.below hbC)
                  have HR12 := Aside0.mk (HR11.out.below hbC)
                  have HB12 := Aside0.mk (below_step HB11.out hbC)
                  clear hdC hbC
                  go_wp2_with fail
                  refine (entries_calls H12.out.vlt (by rw [HVL.out]; have := HCN.out; omega) (fun y hy => by rw [HVL.out] at hy; exact (HRT.out y hy).2.2)).mono ?_
                  rintro e wD ⟨uD, rfl, huD, hbD⟩
                  rw [HVL.out] at huD
                  obtain ⟨AD, cD, hu⟩ := Kd.S_slice huD
                  subst hu
                  have HUD := Aside0.mk huD
                  have HA13 := Aside0.mk (HA12.out.below hbD)
                  have H13 := Aside0.mk (H12.out.below hbD)
                  have HR13 := Aside0.mk (HR12.out.below hbD)
                  have HB13 := Aside0.mk (below_step HB12.out hbD)
                  clear huD hbD
                  go_wp2_with fail
                  refine (horariumref47_Same.calls ks AD cD t At ct t true _ (Kd.S_reads' HUD.out).2.2 (Kd.S_reads' HUD.out).2.1 (Kd.N_reads' HR13.out.nt).2.2 (Kd.N_reads' HR13.out.nt).2.1 hsame.out).mono ?_
                  rintro e wF ⟨rfl, hdF⟩
                  have hbF := hdF.below
                  have HA14 := Aside0.mk (HA13.out.below hbF)
                  have H14 := Aside0.mk (H13.out.below hbF)
                  have HB14 := Aside0.mk (below_step HB13.out hbF)
                  clear hdF hbF
                  go_wp2_with fail
                  refine (room_calls HA14.out.dev HA14.out.vlt).mono ?_
                  rintro e wG ⟨rfl, hbG⟩
                  have H15 := Aside0.mk (H14.out.below hbG)
                  have HB15 := Aside0.mk (below_step HB14.out hbG)
                  clear hbG
                  go_wp2_with fail
                  refine (room_calls H15.out.dev H15.out.vlt).mono ?_
                  rintro e wH ⟨rfl, hbH⟩
                  rw [HVE.out]
                  have HB16 := Aside0.mk (below_step HB15.out hbH)
                  clear hbH
                  go_wp2_with fail
                  refine (heads_calls _).mono ?_
                  rintro e wh ⟨rfl, hb⟩
                  have HBh := Aside0.mk (below_step HB16.out hb)
                  clear hb
                  go_wp2_with fail
                  go_ret
                  exact ⟨rfl, HBh.out⟩
                | succ j1 =>
                  have hjn : j < t.length := by have := JK.out; omega
                  have hj5 := HCN.out
                  obtain ⟨ad7, hA7, hg⟩ := JG.out (by omega)
                  subst hA7
                  have p0 : ((0 : Int) ≤ (j : Int)) = True := eq_true (by omega)
                  have q1 : (j < t.length) = True := eq_true hjn
                  obtain ⟨B7, n7, c7b, hd1, hn7, _⟩ := hg.data j hjn
                  have HG := Aside0.mk hg
                  have HN7 := Aside0.mk hn7
                  have hj2 := Aside0.mk hjn
                  have HD1 := Aside0.mk hd1
                  clear hg hn7 hjn hj5 JG hd1
                  go_wp2_with fail
                  go_loopg [14] n7 (fun kq v14 w' => ∃ (q : Nat), v14 = .int .i64 (q : Int) ∧ Aside0 (q + kq = n7) ∧ Aside0 (GotOk wE.heap.size w' ad7 t.length) ∧ Aside0 (w'.cell? ⟨(ad7.add (j * 2)).block, (ad7.add (j * 2)).off + 1, none⟩ = some (.slice B7 n7 c7b)) ∧ Aside0 (Below wE.heap.size wE w'))
                  case atStart => exact ⟨0, rfl, ⟨Nat.zero_add _⟩, HG, HD1, JL⟩
                  case round =>
                    clear HG HD1 JL
                    obtain ⟨q, rfl, QK, QG, QD, QL⟩ := hrel
                    have hd1 := QD.out
                    cases gk with
                    | zero =>
                      have hq : q = n7 := by have := QK.out; omega
                      have q2 : (q < n7) = False := eq_false (by omega)
                      obtain ⟨⟨z, hz1⟩, hz2⟩ := QG.out.num j hj2.out
                      have HGG := Aside0.mk (QG.out.put64 j hj2.out 0)
                      clear hq
                      go_wp2_with (first | ((with_reducible refine gate_store (t := 3) (p := 108) rfl ?_); refine store_event (t := 3) (p := 108) (v := .const (.int .i64 0)) (w1 := (wr.setCell (ad7.add (j * 2)) (.int .i64 0))) ?hg ?ho ?hn ?hr ?_; (case ho => rfl); (case hg => rfl); (case hn => rfl); (case hr => first | (go_simp; done) | (go_simp; rfl)); intro wz hwz; have hGz := Aside0.mk (show GotOk wE.heap.size wz ad7 t.length by rw [hwz]; exact HGG.out); have hLz := Aside0.mk (show Below wE.heap.size wE wz by rw [hwz]; exact QL.out.setCell (by rw [add_block]; exact QG.out.ge) _); clear hwz hz1 hz2 hd1))
                      go_roundg j1
                      case measure => omega
                      case rel => exact ⟨j + 1, (by have h_ : wrap64 ((j : Int) + 1) = ((j + 1 : Nat) : Int) := (by have := hj2.out; have := HCN.out; unfold wrap64; omega); rw [h_]), ⟨by have := JK.out; omega⟩, ⟨fun _ => ⟨ad7, rfl, hGz.out⟩⟩, hLz⟩
                    | succ q1_ =>
                      have hq : q < n7 := by have := QK.out; omega
                      have q2 : (q < n7) = True := eq_true hq
                      have p2 : ((0 : Int) ≤ (q : Int)) = True := eq_true (by omega)
                      obtain ⟨B', n', c', he, _, hbc⟩ := QG.out.data j hj2.out
                      rw [hd1] at he
                      injection he with he
                      injection he with he1 he2 he3
                      subst he1 he2 he3
                      obtain ⟨bd, hB7, hbg, hbne, ⟨z, hz1⟩, hz2⟩ := hbc q hq
                      subst hB7
                      have HGG := Aside0.mk (QG.out.put8 (p := bd.add q) (by rw [add_block]; exact hbne) hz1 ((z + 1) % 256))
                      have HNE := Aside0.mk hbg
                      have HNB := Aside0.mk hbne
                      have hq2 := Aside0.mk hq
                      clear hq hbc hbne hbg
                      go_wp2_with (first | ((with_reducible refine gate_store (t := 5) (p := 104) rfl ?_); refine store_event (t := 5) (p := 104) (v := .tmp 103) (w1 := (wr.setCell (bd.add q) (.int .u8 ((z + 1) % 256)))) ?hg ?ho ?hn ?hr ?_; (case ho => rfl); (case hg => rfl); (case hn => rfl); (case hr => first | (go_simp; done) | (go_simp; rfl)); intro wz hwz; have hGz := Aside0.mk (show GotOk wE.heap.size wz ad7 t.length by rw [hwz]; exact HGG.out); have hLz := Aside0.mk (show Below wE.heap.size wE wz by rw [hwz]; exact QL.out.setCell (by rw [add_block]; exact HNE.out) _); have hDz := Aside0.mk (show wz.cell? ⟨(ad7.add (j * 2)).block, (ad7.add (j * 2)).off + 1, none⟩ = some (.slice (some bd) n7 c7b) by rw [hwz]; exact (World.cell?_setCell_other wr _ _ _ (fun e => HNB.out (by have e3 := congrArg Addr.block e; simp only [add_block] at e3; exact e3))).trans QD.out); clear hwz hz1 hz2 hd1))
                      go_roundg q1_
                      case measure => omega
                      case rel => exact ⟨q + 1, (by have h_ : wrap64 ((q : Int) + 1) = ((q + 1 : Nat) : Int) := (by have := hq2.out; have := HN7.out; unfold wrap64; omega); rw [h_]), ⟨by have := QK.out; omega⟩, hGz, hDz, hLz⟩
        | succ k1 =>
          have hin : i < l.length := by have := HK.out; have := HM1.out; omega
          have hi40 : i < 40 := by have := HK.out; have := HM2.out; omega
          obtain ⟨ad, cs, hA, _, hfk, hcc, _⟩ := Kd.F_get HF.out z68 (i : Int) (by omega) (by omega)
          subst hA
          obtain ⟨B, cb, hcs, hl1, hF1⟩ := k68_openF hfk
          subst hcs
          have hx0 : w.cell? (ad.add (i * 2)) = some (.int .i64 (l.getD (i : Int).toNat z68).f0) := hcc 0 _ rfl
          have hx1 : w.cell? ⟨(ad.add (i * 2)).block, (ad.add (i * 2)).off + 1, none⟩ = some (.slice B (l.getD (i : Int).toNat z68).f1.length cb) := by
            rw [← add_field _ _ 1 (by omega)]
            exact hcc 1 _ rfl
          have hby : Bytes (l.getD (i : Int).toNat z68).f1 := HBY.out _ (T68_mem l i hin)
          have p0 : ((0 : Int) ≤ (i : Int)) = True := eq_true (by omega)
          have q1 : (i < l.length) = True := eq_true hin
          have q2 : decide ((i : Int) < 40) = true := decide_eq_true (by omega)
          have q3 : (i < 40) = True := eq_true hi40
          clear hcc hfk
          generalize l.getD (i : Int).toNat z68 = x at *
          have G0 := Aside0.mk hx0
          have G1 := Aside0.mk hx1
          have HX := Aside0.mk hF1
          have HBX := Aside0.mk hby
          have HL1 := Aside0.mk hl1
          have hi2 := Aside0.mk hi40
          clear hF1 hby hl1 hin hi40 hx0 hx1
          have hx0 : wr.cell? (ad.add (i * 2)) = some (.int .i64 x.f0) := (HB.out.cell (World.block_lt_of_cell? w _ G0.out)).trans G0.out
          have hx1 : wr.cell? ⟨(ad.add (i * 2)).block, (ad.add (i * 2)).off + 1, none⟩ = some (.slice B x.f1.length cb) := (HB.out.cell (World.block_lt_of_cell? w _ G1.out)).trans G1.out
          by_cases cg : (x.f1.length : Int) > 61000
          · have CG := Aside0.mk cg
            clear cg
            go_wp2_with fail
            refine (horariumlaw48_great.calls x.f0 B cb x.f1 true _ (Kd.F_now (Kd.F_step HX.out (fun k hk _ => HB.out.block k hk))) HL1.out (by unfold horariumlaw48_great.f; rw [decide_eq_true CG.out])).mono ?_
            rintro e w4 ⟨rfl, hb4⟩
            have HB4 := Aside0.mk (below_step HB.out hb4)
            clear hb4 hx0 hx1
            go_wp2_with fail
            refine (heads_calls _).mono ?_
            rintro e wh ⟨rfl, hb⟩
            have HBh := Aside0.mk (below_step HB4.out hb)
            clear hb
            go_wp2_with fail
            go_ret
            exact ⟨rfl, HBh.out⟩
          · have CG := Aside0.mk cg
            clear cg
            go_wp2_with fail
            refine (horariumlaw48_great.calls x.f0 B cb x.f1 false _ (Kd.F_now (Kd.F_step HX.out (fun k hk _ => HB.out.block k hk))) HL1.out (by unfold horariumlaw48_great.f; rw [decide_eq_false (by have := CG.out; omega)])).mono ?_
            rintro e w4 ⟨rfl, hb4⟩
            have HB4 := Aside0.mk (below_step HB.out hb4)
            have HH4 := Aside0.mk (HH.out.below hb4)
            have HR4 := Aside0.mk (HR.out.below hb4)
            clear hb4 hx0 hx1 HH HR HB
            have hx0 : w4.cell? (ad.add (i * 2)) = some (.int .i64 x.f0) := (HB4.out.cell (World.block_lt_of_cell? w _ G0.out)).trans G0.out
            have hx1 : w4.cell? ⟨(ad.add (i * 2)).block, (ad.add (i * 2)).off + 1, none⟩ = some (.slice B x.f1.length cb) := (HB4.out.cell (World.block_lt_of_cell? w _ G1.out)).trans G1.out
            go_wp2_with fail
            refine (append_calls HH4.out x.f0 B cb x.f1 (Kd.F_mono (Kd.F_step HX.out (fun k hk _ => HB4.out.block k hk)) (fun k hk h => by have := HS.out k h; omega)) HL1.out (by have := CG.out; omega) HBX.out (by have h1 := HI.out.count; rw [HI.out.vl, List.length_append]; omega) (by have h1 := HI.out.count; rw [HI.out.waits, writes_length]; omega)).mono ?_
            rintro e w5 ⟨rfl, hw5, Sd5, S5, hB5, hS5⟩
            have hI5 : Inv (appendV d v ⟨x.f0, x.f1⟩).1 (appendV d v ⟨x.f0, x.f1⟩).2.1 [] (if (appendV d v ⟨x.f0, x.f1⟩).2.2 = 0 then t ++ [x] else t) := HI.out.append x HBX.out
            have hL5 : (appendV d v ⟨x.f0, x.f1⟩).1.dead = false ∧ (appendV d v ⟨x.f0, x.f1⟩).1.fuse = 0 ∧ (appendV d v ⟨x.f0, x.f1⟩).2.1.dead = false := live_append HI.out HLV.out.1 HLV.out.2.1 HLV.out.2.2 x
            obtain ⟨d5, v5, q5, hr5⟩ : ∃ d5 v5 q5, appendV d v ⟨x.f0, x.f1⟩ = (d5, v5, q5) := ⟨_, _, _, rfl⟩
            rw [hr5] at hB5 hI5 hL5 ⊢
            have hI5 : Inv d5 v5 [] (if q5 = 0 then t ++ [x] else t) := hI5
            have hL5 : d5.dead = false ∧ d5.fuse = 0 ∧ v5.dead = false := hL5
            have hB5 : Both Sd5 S5 w5 gd g d5 v5 := hB5
            have H5 := Aside0.mk hB5
            have HL5 := Aside0.mk hL5
            have HR5 := Aside0.mk (HR4.out.went hw5 (O' := fun k => S5 k ∨ Sd5 k) hS5 hB5.lt)
            have HS5 := Aside0.mk (show ∀ k, S5 k ∨ Sd5 k → w.heap.size ≤ k from fun k hk => (hS5 k hk).elim (HS.out k) (fun h => Nat.le_trans HB4.out.size h))
            have HB5 := Aside0.mk (HB4.out.trans (hw5.to_below HB4.out.size HS.out))
            clear hw5 hB5 hS5 hr5 hL5 hx0 hx1
            have hx0 : w5.cell? (ad.add (i * 2)) = some (.int .i64 x.f0) := (HB5.out.cell (World.block_lt_of_cell? w _ G0.out)).trans G0.out
            have hx1 : w5.cell? ⟨(ad.add (i * 2)).block, (ad.add (i * 2)).off + 1, none⟩ = some (.slice B x.f1.length cb) := (HB5.out.cell (World.block_lt_of_cell? w _ G1.out)).trans G1.out
            have HX5 := Aside0.mk (Kd.F_step HX.out (fun k hk _ => HB5.out.block k hk))
            by_cases c5 : q5 = 0
            · subst c5
              rw [if_pos rfl] at hI5
              have HI5 := Aside0.mk hI5
              clear hI5
              go_wp2_with (first | ((with_reducible refine gate_builtin (b := .append) (xs := #[.tmp 60, .tmp 65]) rfl ?_); at_builtin; refine Kd.N_append k68 (w0 := w) w.heap.size rfl (.tmp 60) (.tmp 65) 66 68 (.agg #[(.int .i64 0), (.slice none 0 0)]) 32 rfl Try.underlying66 PL.info68 rfl (by decide) (by omega) (.slice At t.length ct) t x [.int .i64 x.f0, .slice B x.f1.length cb] (fun k => Q k ∨ some k = (Value.slice At t.length ct).ownBlock ∨ w5.heap.size ≤ k) (fun k => k < w.heap.size) rfl rfl (k68_mkF w5 _ x HL1.out HX5.out) (fun k hk => ⟨.inl (HR5.out.old k hk), fun e => (HR5.out.qt k e.symm).1 (HR5.out.old k hk)⟩) (fun k hk => .inr (.inr hk)) (Kd.N_mono HR5.out.nt (fun k hk => hk.imp id .inl)) HB5.out HB5.out.size (by have h1 := HI.out.count; omega) ?_; intro v6 w6 hn6 hb6 hg6 hat6; obtain ⟨A6, c6, hv6⟩ := Kd.N_slice hn6; subst hv6; have hsz6 : w5.heap.size ≤ w6.heap.size := hg6.size; have H6 := Aside0.mk (H5.out.kept (kept_grown hg6 hsz6) (fun k hk e => (HR5.out.qt k e.symm).2.1 hk)); have HR6 := Aside0.mk (HR5.out.push hn6 hg6 hsz6 hat6); have HB6 := Aside0.mk hb6; clear hn6 hb6 hg6 hat6 hsz6 hx0 hx1))
              obtain ⟨Q6, hq6⟩ := HR6.out
              rw [List.length_append, List.length_singleton] at hq6
              have HR7 := Aside0.mk hq6
              clear hq6 HR6
              go_wp2_with fail
              go_roundg k1
              case measure => omega
              case rel => exact ⟨i + 1, Sd5, S5, Q6, d5, v5, t ++ [x], (by have h_ : wrap64 ((i : Int) + 1) = ((i + 1 : Nat) : Int) := (by have := hi2.out; unfold wrap64; omega); rw [h_]), ⟨by have := HK.out; omega⟩, H6, HI5, HL5, HR7, HS5, HB6⟩
            · have cb5 : (q5 == 0) = false := beq_eq_false_iff_ne.mpr c5
              rw [if_neg c5] at hI5
              have HI5 := Aside0.mk hI5
              clear hI5 c5 hx0 hx1
              go_wp2_with fail
              go_roundg k1
              case measure => omega
              case rel => exact ⟨i + 1, Sd5, S5, Q, d5, v5, t, (by have h_ : wrap64 ((i : Int) + 1) = ((i + 1 : Nat) : Int) := (by have := hi2.out; unfold wrap64; omega); rw [h_]), ⟨by have := HK.out; omega⟩, H5, HI5, HL5, HR5, HS5, HB5⟩
end Go.Proofs.Ytccjdefhieilpaa.VT
