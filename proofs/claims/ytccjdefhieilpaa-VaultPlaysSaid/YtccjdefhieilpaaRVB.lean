/-
 What the law VaultPlays needs of VB (what it does not use is left out by a program of this session, wip/tools/dce.py).
-/
import Derived.Test.YtccjdefhieilpaaRVA
import Derived.Test.YtccjdefhieilpaaRLogPure
import Derived.Test.YtccjdefhieilpaaRPGx2
import Derived.Test.YtccjdefhieilpaaRLogSame
namespace Go.Proofs.Ytccjdefhieilpaa.VT
open Go.RowKit Go.Proofs.YtccjdefhieilpaaW.PrintWords Go.Proofs.YtccjdefhieilpaaW.PrintLast Go.Proofs.YtccjdefhieilpaaW.PrintMore Go.Proofs.Ytccjdefhieilpaa.PB Go.Proofs.Ytccjdefhieilpaa.PL Go.Proofs.Ytccjdefhieilpaa.PG
attribute [local go_sem] max2_int min2_int max_two min_two max_three min_three max_four min_four   -- for this text's walks alone
set_option linter.unusedVariables false
set_option linter.unusedSimpArgs false
structure V where
 l : List S68
 en : Int
 dead : Bool
structure Vlt (S : Nat → Prop) (w : World) (g gd : Nat) (v : V) : Prop where
 has : S g
 lt : ∀ k, S k → k < w.heap.size
 parts : ∃ ve, w.heap[g]? = some (.cells #[ve, .int .i64 v.en, .pointer (some ⟨gd, 0, none⟩), .bool v.dead] 155 (0, 0)) ∧ Kd.N k68 68 w 0 (fun k => S k ∧ k ≠ g) ve v.l
theorem Vlt.below {S : Nat → Prop} {w w' : World} {g gd : Nat} {v : V} (h : Vlt S w g gd v) (hb : Below w.heap.size w w') : Vlt S w' g gd v := by
 obtain ⟨ve, h1, h2⟩ := h.parts
 exact ⟨h.has, fun k hk => Nat.lt_of_lt_of_le (h.lt k hk) hb.size, ⟨ve, blk_below h1 hb, Kd.N_below h2 hb⟩⟩
theorem Vlt.kept {S S' : Nat → Prop} {w w' : World} {g gd : Nat} {v : V} (h : Vlt S w g gd v) (hk : Kept w w' S') (hs : ∀ k, S k → ¬ S' k) : Vlt S w' g gd v := by
 obtain ⟨ve, h1, h2⟩ := h.parts
 exact ⟨h.has, fun k hk' => Nat.lt_of_lt_of_le (h.lt k hk') hk.1, ⟨ve, blk_kept h1 hk (hs g h.has), Kd.N_kept h2 hk (fun k hk' => hs k hk'.1)⟩⟩
theorem Vlt.mkB {S : Nat → Prop} {w : World} {g gd : Nat} {v : V} (has : S g) (parts : ∃ ve, w.heap[g]? = some (.cells #[ve, .int .i64 v.en, .pointer (some ⟨gd, 0, none⟩), .bool v.dead] 155 (0, 0)) ∧ Kd.N k68 68 w 0 (fun k => S k ∧ k ≠ g) ve v.l) : Vlt (fun k => S k ∧ k < w.heap.size) w g gd v := by
 obtain ⟨ve, h1, h2⟩ := parts
 exact ⟨⟨has, blk_lt h1⟩, fun k hk => hk.2, ⟨ve, h1, Kd.N_mono (Kd.N_bound h2) (fun k hk => ⟨⟨hk.1.1, hk.2⟩, hk.1.2⟩)⟩⟩
theorem Vlt.set3 {S : Nat → Prop} {w : World} {g gd : Nat} {v : V} (h : Vlt S w g gd v) (x : Bool) : Vlt S (w.setCell ⟨g, 3, none⟩ (.bool x)) g gd ⟨v.l, v.en, x⟩ := by
 obtain ⟨ve, h1, h2⟩ := h.parts
 exact ⟨h.has, fun k hk => by rw [size_set]; exact h.lt k hk, ⟨ve, blk_put h1 3 _ rfl, Kd.N_far h2 (fun k hk => hk.2) _⟩⟩
set_option maxHeartbeats 8000000 in
set_option maxRecDepth 100000 in
theorem vnone_calls {S : Nat → Prop} {w : World} {g gd : Nat} {v : V} (h : Vlt S w g gd v) :
  Calls Try.prog 123 #[.pointer (some ⟨g, 0, none⟩)] w fun e w' => e = .returned (.bool false) ∧ Below w.heap.size w w' := by
 obtain ⟨ve, h1, h2⟩ := h.parts
 have HB := Aside0.mk (Below.refl w.heap.size w)
 have hc0 : w.cell? ⟨g, 2, none⟩ = some (.pointer (some ⟨gd, 0, none⟩)) := (blk_cell h1 2).trans rfl
 clear h1 h2
 go_enter Try.func123, Try.ntmps123
 go_wp2_with fail
 go_ret
 exact ⟨rfl, HB.out⟩
def doneV (v : V) (e : Int) : V := ⟨v.l, v.en, v.dead || (e != 0)⟩
set_option maxHeartbeats 8000000 in
set_option maxRecDepth 100000 in
theorem done_calls {S : Nat → Prop} {w : World} {g gd : Nat} {v : V} (h : Vlt S w g gd v) (x : Int) :
  Calls Try.prog 124 #[.pointer (some ⟨g, 0, none⟩), .int .i64 x] w fun e w' => e = .returned (.int .i64 x) ∧ Vlt S w' g gd (doneV v x) ∧ Went S w w' := by
 obtain ⟨ve, h1, h2⟩ := h.parts
 have hv := Aside0.mk h
 have hc0 : w.cell? ⟨g, 3, none⟩ = some (.bool v.dead) := (blk_cell h1 3).trans rfl
 have hf0 := blk_frozen h1 3
 clear h1 h2 h
 cases hdd : v.dead with
 | true =>
  have hE : Aside0 (doneV v x = ⟨v.l, v.en, true⟩) := ⟨by unfold doneV; rw [hdd]; rfl⟩
  rw [hdd] at hc0
  go_enter Try.func124, Try.ntmps124
  go_wp2_with fail
  go_ret
  exact ⟨rfl, by rw [hE.out]; exact hv.out.set3 true, (Went.refl S w).set (.inl hv.out.has) _⟩
 | false =>
  have hE : Aside0 (doneV v x = ⟨v.l, v.en, x != 0⟩) := ⟨by unfold doneV; rw [hdd]; rfl⟩
  rw [hdd] at hc0
  go_enter Try.func124, Try.ntmps124
  go_wp2_with fail
  go_ret
  exact ⟨rfl, by rw [hE.out]; exact hv.out.set3 _, (Went.refl S w).set (.inl hv.out.has) _⟩
def room3.T : Bool × List (List Nat × List Nat) := (true, [([], []), ([0], [0]), ([1], [1]), ([2], [2]), ([3], [3]), ([], []), ([5], [5]), ([6], [6]), ([7], [7]), ([8], [8]), ([4, 9], [4, 9]), ([10, 4, 0, 1, 2, 3, 4, 5, 6, 7, 8, 9, 10], [10])])
def room3.B : List Nat := [0, 1, 3, 7, 15, 0, 32, 96, 224, 480, 1023, 2047]
theorem room3.tab : rtab .any (opsOf Try.f113 3) = room3.T := by kernel_rfl
theorem room3.bits : waitsOk room3.T.2 room3.B = true := by kernel_rfl
set_option maxHeartbeats 8000000 in
set_option maxRecDepth 100000 in
theorem room_calls {Sd S : Nat → Prop} {w : World} {g gd : Nat} {d : D} {v : V} (hd : Dev Sd w gd d) (h : Vlt S w g gd v) :
  Calls Try.prog 113 #[.pointer (some ⟨g, 0, none⟩)] w fun e w' => e = .returned (.int .i64 (wrap64 ((d.b.length : Int) - v.en))) ∧ Below w.heap.size w w' := by
 have hv := Aside0.mk h
 have hdv := Aside0.mk hd
 clear h hd
 go_enter Try.func113, Try.ntmps113
 go_wp2_with fail
 refine (vnone_calls hv.out).mono ?_
 rintro e w1 ⟨rfl, hb⟩
 have HV := Aside0.mk (hv.out.below hb)
 have HD := Aside0.mk (hdv.out.below hb)
 have HB := Aside0.mk hb
 clear hb
 go_wp2_with fail
 obtain ⟨ve, h1, _⟩ := HV.out.parts
 refine start_ (n := 12) (S := fun w' => w'.cell? ⟨g, 2, none⟩ = some (.pointer (some ⟨gd, 0, none⟩)) ∧ w'.cell? ⟨g, 1, none⟩ = some (.int .i64 v.en)) (ds := []) #[f_,f_,f_,f_,f_,f_,f_,f_,f_,f_,f_,f_] (by kernel_rfl) rfl rfl ⟨(blk_cell h1 2).trans rfl, (blk_cell h1 1).trans rfl⟩ (fun hHeld => ?_); refine with_tabW room3.tab room3.bits (fun HT_ HW_ => ?_)
 have HB2 := Aside0.mk (below_drew1 HB.out); have HV2 := Aside0.mk (HV.out.below (below_drew (Below.refl _ _))); have HD2 := Aside0.mk (HD.out.below (below_drew (Below.refl _ _))); clear h1 HB HV HD; generalize w1.drew = w2 at HB2 HV2 HD2 hHeld ⊢
 refine pure_ (i := 0) (N := some 5) (v := ?_) (a' := ?_) #[t_,f_,f_,f_,f_,f_,f_,f_,f_,f_,f_,f_] rfl rfl (any_of HT_.out (by kernel_rfl)) (fun _ _ _ h => h) (Or.inl ⟨by rfl, ?_⟩) ?_ ?_
 rotate_left
 ·intro w'
  go_simp
  with_reducible rfl
 rotate_left
 ·simp only [Act.put, sA, sZ, sS, i64_w, i32_w]
  rfl
 refine pure_ (i := 1) (N := some 6) (v := ?_) (a' := ?_) #[t_,t_,f_,f_,f_,f_,f_,f_,f_,f_,f_,f_] rfl rfl (any_of HT_.out (by kernel_rfl)) (fun _ _ _ h => h) (Or.inl ⟨by rfl, ?_⟩) ?_ ?_
 rotate_left
 ·intro w'
  go_simp
  with_reducible rfl
 rotate_left
 ·simp only [Act.put, sA, sZ, sS, i64_w, i32_w]
  rfl
 refine pure_ (i := 2) (N := some 7) (v := ?_) (a' := ?_) #[t_,t_,t_,f_,f_,f_,f_,f_,f_,f_,f_,f_] rfl rfl (any_of HT_.out (by kernel_rfl)) (fun _ _ _ h => h) (Or.inl ⟨by rfl, ?_⟩) ?_ ?_
 rotate_left
 ·intro w'
  go_simp
  with_reducible rfl
 rotate_left
 ·simp only [Act.put, sA, sZ, sS, i64_w, i32_w]
  rfl
 refine take_ (i := 3) (N := some 8) (v := ?_) (a' := ?_) #[t_,t_,t_,t_,f_,f_,f_,f_,f_,f_,f_,f_] rfl rfl (take_ofW HT_.out HW_.out (by kernel_rfl)) (fun _ _ _ h => h) (Or.inl ⟨by rfl, ?_⟩) hHeld ?_ ?_
 rotate_left
 ·rintro w' ⟨s0, s1⟩
  go_simp
  with_reducible rfl
 rotate_left
 ·simp only [Act.put, sA, sZ, sS, i64_w, i32_w]
  rfl
 refine pure_ (i := 5) (N := some 10) (v := ?_) (a' := ?_) #[t_,t_,t_,t_,f_,t_,f_,f_,f_,f_,f_,f_] rfl rfl (any_of HT_.out (by kernel_rfl)) (fun _ _ _ h => h) (Or.inl ⟨by rfl, ?_⟩) ?_ ?_
 rotate_left
 ·intro w'
  go_simp
  with_reducible rfl
 rotate_left
 ·simp only [Act.put, sA, sZ, sS, i64_w, i32_w]
  rfl
 refine pure_ (i := 6) (N := some 11) (v := ?_) (a' := ?_) #[t_,t_,t_,t_,f_,t_,t_,f_,f_,f_,f_,f_] rfl rfl (any_of HT_.out (by kernel_rfl)) (fun _ _ _ h => h) (Or.inl ⟨by rfl, ?_⟩) ?_ ?_
 rotate_left
 ·intro w'
  go_simp
  with_reducible rfl
 rotate_left
 ·simp only [Act.put, sA, sZ, sS, i64_w, i32_w]
  rfl
 refine pure_ (i := 7) (N := some 12) (v := ?_) (a' := ?_) #[t_,t_,t_,t_,f_,t_,t_,t_,f_,f_,f_,f_] rfl rfl (any_of HT_.out (by kernel_rfl)) (fun _ _ _ h => h) (Or.inl ⟨by rfl, ?_⟩) ?_ ?_
 rotate_left
 ·intro w'
  go_simp
  with_reducible rfl
 rotate_left
 ·simp only [Act.put, sA, sZ, sS, i64_w, i32_w]
  rfl
 refine pure_ (i := 8) (N := some 13) (v := ?_) (a' := ?_) #[t_,t_,t_,t_,f_,t_,t_,t_,t_,f_,f_,f_] rfl rfl (any_of HT_.out (by kernel_rfl)) (fun _ _ _ h => h) (Or.inl ⟨by rfl, ?_⟩) ?_ ?_
 rotate_left
 ·intro w'
  go_simp
  with_reducible rfl
 rotate_left
 ·simp only [Act.put, sA, sZ, sS, i64_w, i32_w]
  rfl
 refine take_ (i := 9) (N := some 14) (v := ?_) (a' := ?_) #[t_,t_,t_,t_,f_,t_,t_,t_,t_,t_,f_,f_] rfl rfl (take_ofW HT_.out HW_.out (by kernel_rfl)) (fun _ _ _ h => h) (Or.inl ⟨by rfl, ?_⟩) hHeld ?_ ?_
 rotate_left
 ·rintro w' ⟨s0, s1⟩
  go_simp
  with_reducible rfl
 rotate_left
 ·simp only [Act.put, sA, sZ, sS, i64_w, i32_w]
  rfl
 refine one_ (i := 4) (N := some 9) #[t_,t_,t_,t_,t_,t_,t_,t_,t_,t_,f_,f_] rfl rfl (one_of HT_.out (by kernel_rfl)) (by decide) (fun K hK => ?_)
 refine goes_ Try.func75 (by kernel_rfl) rfl #[.pointer (some ⟨gd, 0, none⟩)] (by rfl) rfl rfl (by (try simp only [List.map_toArray, List.map_cons, List.map_nil]); first | done | rfl) ?_
 refine (size_calls HD2.out).mono ?_
 rintro e w3 ⟨rfl, hb3⟩
 refine ⟨_, rfl, ?_⟩
 have HB3 := Aside0.mk (below_step HB2.out hb3)
 have HV3 := Aside0.mk (HV2.out.below hb3)
 clear hb3
 obtain ⟨ve, h1, _⟩ := HV3.out.parts
 refine hK.out _ _ ⟨(blk_cell h1 2).trans rfl, (blk_cell h1 1).trans rfl⟩ (fun hHeld => ?_)
 clear hK K
 refine norm_ (a' := ?_) ?_ ?_
 rotate_left
 ·show Act.put _ (some 9) _ = _
  simp only [Act.put, sA, sZ, sS, i64_w, i32_w]
  rfl
 refine pure_ (i := 10) (N := some 15) (v := ?_) (a' := ?_) #[t_,t_,t_,t_,t_,t_,t_,t_,t_,t_,t_,f_] rfl rfl (any_of HT_.out (by kernel_rfl)) (fun _ _ _ h => h) (Or.inl ⟨by rfl, ?_⟩) ?_ ?_
 rotate_left
 ·intro w'
  go_simp
  with_reducible rfl
 rotate_left
 ·simp only [Act.put, sA, sZ, sS, i64_w, i32_w]
  rfl
 refine pure_ (i := 11) (N := some 2) (v := ?_) (a' := ?_) #[t_,t_,t_,t_,t_,t_,t_,t_,t_,t_,t_,t_] rfl rfl (any_of HT_.out (by kernel_rfl)) (fun _ _ _ h => h) (Or.inl ⟨by rfl, ?_⟩) ?_ ?_
 rotate_left
 ·intro w'
  go_simp
  with_reducible rfl
 rotate_left
 ·simp only [Act.put, sA, sZ, sS, i64_w, i32_w]
  rfl
 refine done_ (done_of HT_.out (by kernel_rfl)) ?_
 go_wp2_with fail
 go_ret
 exact ⟨rfl, HB3.out⟩
end Go.Proofs.Ytccjdefhieilpaa.VT
namespace Go.Proofs.Ytccjdefhieilpaa.VT
open Go.RowKit Go.Proofs.YtccjdefhieilpaaW.PrintWords Go.Proofs.YtccjdefhieilpaaW.PrintLast Go.Proofs.YtccjdefhieilpaaW.PrintMore Go.Proofs.Ytccjdefhieilpaa.PB Go.Proofs.Ytccjdefhieilpaa.PL Go.Proofs.Ytccjdefhieilpaa.PG
attribute [local go_sem] max2_int min2_int max_two min_two max_three min_three max_four min_four   -- for this text's walks alone
set_option linter.unusedVariables false
set_option linter.unusedSimpArgs false
theorem func122 : Try.prog.funcs[122]? = some Try.f122 := by kernel_rfl
theorem ntmps122 : Try.f122.ntmps = 30 := by kernel_rfl
def add1.T : Bool × List (List Nat × List Nat) := (true, [([], []), ([], []), ([1], [1]), ([2], [2]), ([3], [3]), ([], []), ([5], [5]), ([], []), ([], []), ([8], [8]), ([7, 9], [7, 9]), ([6, 10], [6, 10]), ([11], [11]), ([4, 12, 10], [4, 12]), ([0, 0, 1, 2, 3, 4, 5, 6, 7, 8, 9, 10, 11, 12, 13], [0]), ([14, 0, 1, 2, 3, 4, 5, 6, 7, 8, 9, 10, 11, 12, 13], [14]), ([15, 13, 13, 0, 1, 2, 3, 4, 5, 6, 7, 8, 9, 10, 11, 12, 13], [13, 15])])
def add1.B : List Nat := [0, 0, 2, 6, 14, 0, 32, 0, 0, 256, 896, 2016, 4064, 8190, 16383, 32767, 65535]
theorem add1.tab : rtab .any (opsOf Try.f122 1) = add1.T := by kernel_rfl
theorem add1.bits : waitsOk add1.T.2 add1.B = true := by kernel_rfl
set_option maxHeartbeats 8000000 in
set_option maxRecDepth 100000 in
theorem add_calls {S : Nat → Prop} {w : World} {g gd : Nat} {v : V} (h : Vlt S w g gd v) (kd : Int) (A : Option Addr) (c : Nat) (xs : List Int) (n : Int) (hF : Kd.F (Kd.int .u8) w (fun k => ¬ S k) A xs.length xs) (hc : xs.length ≤ c) (hx : xs.length ≤ 140737488355328) (hl : v.l.length ≤ 1000000) :
  Calls Try.prog 122 #[.pointer (some ⟨g, 0, none⟩), .agg #[.int .i64 kd, .slice A xs.length c], .int .i64 n] w fun e w' => e = .returned (.tuple #[]) ∧ Went S w w' ∧ ∃ S', Vlt S' w' g gd ⟨v.l ++ [⟨kd, xs⟩], wrap64 (v.en + n), v.dead⟩ ∧ ∀ k, S' k → S k ∨ w.heap.size ≤ k := by
 have hv := Aside0.mk h
 have HF := Aside0.mk hF
 have HX := Aside0.mk hx
 have HLL := Aside0.mk hl
 have hu68 := Try.underlying68
 clear h hF hx hl
 go_enter func122, ntmps122
 go_wp2_with (first | ((with_reducible refine gate_dst (N := 4) rfl ?_); refine box_event ?hg (N := 4) ?hd (cs := #[.int .i64 kd, .slice A xs.length c]) (t := 68) ?hr ?_; (case hd => rfl); (case hg => rfl); (case hr => first | (go_simp; done) | (go_simp; rfl)); intro ge hge w1 hbox hb; have BX := Aside0.mk hbox; have HB1 := Aside0.mk hb; have GE := Aside0.mk (show w.heap.size ≤ ge by rw [hge]; exact Nat.le_refl _); clear hbox hb hge))
 have HV := Aside0.mk (hv.out.below HB1.out)
 have HF1 := Aside0.mk (Kd.F_below HF.out HB1.out)
 have HW1 := Aside0.mk (Went.of_below HB1.out : Went S w w1)
 obtain ⟨ve, h1, h2⟩ := HV.out.parts
 obtain ⟨Aw, cw, rfl⟩ := Kd.N_slice h2
 have H1 := Aside0.mk h1
 have H2 := Aside0.mk h2
 clear h1 h2
 refine start_ (n := 17) (S := fun w' => w'.cell? ⟨g, 0, none⟩ = some (.slice Aw v.l.length cw) ∧ w'.cell? ⟨ge, 0, none⟩ = some (.int .i64 kd) ∧ w'.cell? ⟨ge, 1, none⟩ = some (.slice A xs.length c)) (ds := [16]) #[f_,f_,f_,f_,f_,f_,f_,f_,f_,f_,f_,f_,f_,f_,f_,f_,f_] (by kernel_rfl) rfl rfl ⟨(blk_cell H1.out 0).trans rfl, (blk_cell BX.out 0).trans rfl, (blk_cell BX.out 1).trans rfl⟩ (fun hHeld => ?_); refine with_tabW add1.tab add1.bits (fun HT_ HW_ => ?_)
 have H1' := Aside0.mk (blk_drew H1.out); have H2' := Aside0.mk (Kd.N_drew H2.out); have BX' := Aside0.mk (blk_drew BX.out); have HW' := Aside0.mk (HW1.out.step (below_drew (Below.refl _ _))); have HF' := Aside0.mk (Kd.F_drew HF1.out); clear H1 H2 BX HW1 HF1 HV HB1; generalize w1.drew = w3 at H1' H2' BX' HW' HF' hHeld ⊢
 refine pure_ (i := 0) (N := some 6) (v := ?_) (a' := ?_) #[t_,f_,f_,f_,f_,f_,f_,f_,f_,f_,f_,f_,f_,f_,f_,f_,f_] rfl rfl (any_of HT_.out (by kernel_rfl)) (fun _ _ _ h => h) (Or.inl ⟨by rfl, ?_⟩) ?_ ?_
 rotate_left
 ·intro w'
  go_simp
  with_reducible rfl
 rotate_left
 ·simp only [Act.put, sA, sZ, sS, i64_w, i32_w]
  rfl
 refine pure_ (i := 1) (N := some 7) (v := ?_) (a' := ?_) #[t_,t_,f_,f_,f_,f_,f_,f_,f_,f_,f_,f_,f_,f_,f_,f_,f_] rfl rfl (any_of HT_.out (by kernel_rfl)) (fun _ _ _ h => h) (Or.inl ⟨by rfl, ?_⟩) ?_ ?_
 rotate_left
 ·intro w'
  go_simp
  with_reducible rfl
 rotate_left
 ·simp only [Act.put, sA, sZ, sS, i64_w, i32_w]
  rfl
 refine pure_ (i := 2) (N := some 8) (v := ?_) (a' := ?_) #[t_,t_,t_,f_,f_,f_,f_,f_,f_,f_,f_,f_,f_,f_,f_,f_,f_] rfl rfl (any_of HT_.out (by kernel_rfl)) (fun _ _ _ h => h) (Or.inl ⟨by rfl, ?_⟩) ?_ ?_
 rotate_left
 ·intro w'
  go_simp
  with_reducible rfl
 rotate_left
 ·simp only [Act.put, sA, sZ, sS, i64_w, i32_w]
  rfl
 refine pure_ (i := 3) (N := some 9) (v := ?_) (a' := ?_) #[t_,t_,t_,t_,f_,f_,f_,f_,f_,f_,f_,f_,f_,f_,f_,f_,f_] rfl rfl (any_of HT_.out (by kernel_rfl)) (fun _ _ _ h => h) (Or.inl ⟨by rfl, ?_⟩) ?_ ?_
 rotate_left
 ·intro w'
  go_simp
  with_reducible rfl
 rotate_left
 ·simp only [Act.put, sA, sZ, sS, i64_w, i32_w]
  rfl
 refine take_ (i := 4) (N := some 10) (v := ?_) (a' := ?_) #[t_,t_,t_,t_,t_,f_,f_,f_,f_,f_,f_,f_,f_,f_,f_,f_,f_] rfl rfl (take_ofW HT_.out HW_.out (by kernel_rfl)) (fun _ _ _ h => h) (Or.inl ⟨by rfl, ?_⟩) hHeld ?_ ?_
 rotate_left
 ·rintro w' ⟨s0, s1, s2⟩
  go_simp
  with_reducible rfl
 rotate_left
 ·simp only [Act.put, sA, sZ, sS, i64_w, i32_w]
  rfl
 refine pure_ (i := 5) (N := some 11) (v := ?_) (a' := ?_) #[t_,t_,t_,t_,t_,t_,f_,f_,f_,f_,f_,f_,f_,f_,f_,f_,f_] rfl rfl (any_of HT_.out (by kernel_rfl)) (fun _ _ _ h => h) (Or.inl ⟨by rfl, ?_⟩) ?_ ?_
 rotate_left
 ·intro w'
  go_simp
  with_reducible rfl
 rotate_left
 ·simp only [Act.put, sA, sZ, sS, i64_w, i32_w]
  rfl
 refine take_ (i := 6) (N := some 12) (v := ?_) (a' := ?_) #[t_,t_,t_,t_,t_,t_,t_,f_,f_,f_,f_,f_,f_,f_,f_,f_,f_] rfl rfl (take_ofW HT_.out HW_.out (by kernel_rfl)) (fun _ _ _ h => h) (Or.inl ⟨by rfl, ?_⟩) hHeld ?_ ?_
 rotate_left
 ·rintro w' ⟨s0, s1, s2⟩
  go_simp
  with_reducible rfl
 rotate_left
 ·simp only [Act.put, sA, sZ, sS, i64_w, i32_w]
  rfl
 refine pure_ (i := 8) (N := some 14) (v := ?_) (a' := ?_) #[t_,t_,t_,t_,t_,t_,t_,f_,t_,f_,f_,f_,f_,f_,f_,f_,f_] rfl rfl (any_of HT_.out (by kernel_rfl)) (fun _ _ _ h => h) (Or.inl ⟨by rfl, ?_⟩) ?_ ?_
 rotate_left
 ·intro w'
  go_simp
  with_reducible rfl
 rotate_left
 ·simp only [Act.put, sA, sZ, sS, i64_w, i32_w]
  rfl
 refine take_ (i := 9) (N := some 15) (v := ?_) (a' := ?_) #[t_,t_,t_,t_,t_,t_,t_,f_,t_,t_,f_,f_,f_,f_,f_,f_,f_] rfl rfl (take_ofW HT_.out HW_.out (by kernel_rfl)) (fun _ _ _ h => h) (Or.inl ⟨by rfl, ?_⟩) hHeld ?_ ?_
 rotate_left
 ·rintro w' ⟨s0, s1, s2⟩
  go_simp
  with_reducible rfl
 rotate_left
 ·simp only [Act.put, sA, sZ, sS, i64_w, i32_w]
  rfl
 refine one_ (i := 7) (N := some 13) #[t_,t_,t_,t_,t_,t_,t_,t_,t_,t_,f_,f_,f_,f_,f_,f_,f_] rfl rfl (one_of HT_.out (by kernel_rfl)) (by decide) (fun K hK => ?_)
 refine lit_step (by rfl) (N := 13) ?hd (cs := #[]) (t := 5) (m := 0) ?hr ?_; (case hd => rfl); (case hr => first | (go_simp; done) | (go_simp; rfl))
 intro gl hgl w4 hl4 hb4
 have HL := Aside0.mk hl4
 have G1 := blk_below H1'.out hb4
 have GX := blk_below BX'.out hb4
 have GF := Aside0.mk (Kd.F_below HF'.out hb4)
 have GB := Aside0.mk hb4
 have GL := Aside0.mk (show w3.heap.size ≤ gl by rw [hgl]; exact Nat.le_refl _)
 clear hl4 hb4 hgl
 refine hK.out _ _ ⟨(blk_cell G1 0).trans rfl, (blk_cell GX 0).trans rfl, (blk_cell GX 1).trans rfl⟩ (fun hHeld => ?_)
 clear hK K
 refine norm_ (a' := ?_) ?_ ?_
 rotate_left
 ·show Act.put _ (some 13) _ = _
  simp only [Act.put, sA, sZ, sS, i64_w, i32_w]
  rfl
 refine one_ (i := 10) (N := some 16) #[t_,t_,t_,t_,t_,t_,t_,t_,t_,t_,t_,f_,f_,f_,f_,f_,f_] rfl rfl (one_of HT_.out (by kernel_rfl)) (by decide) (fun K hK => ?_)
 refine bytes_copy_step (w0 := w3) (by rfl) (.tmp 13) (.tmp 15) rfl gl A c xs rfl rfl HL.out GL.out GB.out (Kd.F_now GF.out) HX.out ?_
 intro v5 w5 hr5 hb5
 have HV5 := Aside0.mk hr5
 have K1 := Aside0.mk (blk_below H1'.out hb5)
 have KX := Aside0.mk (blk_below BX'.out hb5)
 have K2 := Aside0.mk (Kd.N_below H2'.out hb5)
 have KW := Aside0.mk (HW'.out.step hb5)
 have KS := Aside0.mk hb5.size
 clear hr5 hb5 G1 GX GF GB GL HL
 obtain ⟨A5, c5, hv5, hc5, hC5⟩ := Kd.R_reads HV5.out
 subst hv5
 refine hK.out _ _ ⟨(blk_cell K1.out 0).trans rfl, (blk_cell KX.out 0).trans rfl, (blk_cell KX.out 1).trans rfl⟩ (fun hHeld => ?_)
 clear hK K
 refine norm_ (a' := ?_) ?_ ?_
 rotate_left
 ·show Act.put _ (some 16) _ = _
  simp only [Act.put, sA, sZ, sS, i64_w, i32_w]
  rfl
 refine pure_ (i := 11) (N := some 17) (v := ?_) (a' := ?_) #[t_,t_,t_,t_,t_,t_,t_,t_,t_,t_,t_,t_,f_,f_,f_,f_,f_] rfl rfl (any_of HT_.out (by kernel_rfl)) (fun _ _ _ h => h) (Or.inl ⟨by rfl, ?_⟩) ?_ ?_
 rotate_left
 ·intro w'
  go_simp
  with_reducible rfl
 rotate_left
 ·simp only [Act.put, sA, sZ, sS, i64_w, i32_w]
  rfl
 refine one_ (i := 12) (N := some 18) #[t_,t_,t_,t_,t_,t_,t_,t_,t_,t_,t_,t_,t_,f_,f_,f_,f_] rfl rfl (one_of HT_.out (by kernel_rfl)) (by decide) (fun K hK => ?_)
 refine event_step (by rfl) (v := .slice (some ⟨w5.heap.size, 0, none⟩) 1 1) (w1 := w5.alloc (.cells [.int .i64 kd, .slice A5 xs.length c5].toArray 68)) ?hr ?_; (case hr => first | (go_simp; done) | (go_simp; rfl))
 refine hK.out _ _ ⟨(blk_cell (blk_alloc K1.out _) 0).trans rfl, (blk_cell (blk_alloc KX.out _) 0).trans rfl, (blk_cell (blk_alloc KX.out _) 1).trans rfl⟩ (fun hHeld => ?_)
 clear hK K
 refine norm_ (a' := ?_) ?_ ?_
 rotate_left
 ·show Act.put _ (some 18) _ = _
  simp only [Act.put, sA, sZ, sS, i64_w, i32_w]
  rfl
 refine one_ (i := 13) (N := some 19) #[t_,t_,t_,t_,t_,t_,t_,t_,t_,t_,t_,t_,t_,t_,f_,f_,f_] rfl rfl (one_of HT_.out (by kernel_rfl)) (by decide) (fun K hK => ?_)
 have hne : ∀ k, w3.heap.size ≤ k → k ≠ g := fun k hk e => by have := blk_lt H1'.out; omega
 have hvw := Kd.N_lt H2'.out
 refine Kd.N_append_step k68 (w0 := w5) 0 (by rfl) (.tmp 10) (.tmp 18) 66 68 (.agg #[(.int .i64 0), (.slice none 0 0)]) 32 rfl Try.underlying66 info68 rfl (by decide) (by omega) (.slice Aw v.l.length cw) v.l (⟨kd, xs⟩ : S68) [.int .i64 kd, .slice A5 xs.length c5] (fun k => (S k ∨ w3.heap.size ≤ k) ∧ k ≠ g) (fun k => w3.heap.size ≤ k) rfl rfl (k68_mkF w5 _ (⟨kd, xs⟩ : S68) hc5 (Kd.R_F HV5.out)) (fun k hk => ⟨⟨.inr hk, hne k hk⟩, fun e => by have := hvw k e.symm; omega⟩) (fun k hk => ⟨.inr (Nat.le_trans KS.out hk), hne k (Nat.le_trans KS.out hk)⟩) (Kd.N_mono K2.out (fun k hk => ⟨.inl hk.1, hk.2⟩)) (Below.refl _ _) (Nat.zero_le _) (by have := HLL.out; omega) ?_
 intro v6 w6 hn6 hb6 hg6 hat6
 obtain ⟨A6, c6, hv6⟩ := Kd.N_slice hn6
 subst hv6
 have hk6 : Kept w5 w6 (fun k => some k = (Value.slice Aw v.l.length cw).ownBlock) := ⟨hb6.size, fun k hk hn => hg6.block k hk hn⟩
 have hvg : some g ≠ (Value.slice Aw v.l.length cw).ownBlock := fun e => (H2'.out.1 g e.symm).2 rfl
 have hvx : some ge ≠ (Value.slice Aw v.l.length cw).ownBlock := fun e => by
  have h3 := hv.out.lt ge (H2'.out.1 ge e.symm).1
  have := GE.out
  omega
 have L1 := Aside0.mk (blk_kept K1.out hk6 hvg)
 have LX := blk_kept KX.out hk6 hvx
 have L2 := Aside0.mk hn6
 have LW := Aside0.mk (KW.out.trans (⟨hk6, ⟨hb6.os, hb6.tape, hb6.output, hb6.size, fun j hj => absurd hj (Nat.not_lt_zero _)⟩⟩ : Went _ w5 w6) (fun k hk => .inl (H2'.out.1 k hk.symm).1))
 clear hn6 hb6 hg6 hat6 hk6
 refine hK.out _ _ ⟨(blk_cell L1.out 0).trans rfl, (blk_cell LX 0).trans rfl, (blk_cell LX 1).trans rfl⟩ (fun hHeld => ?_)
 clear hK K
 refine norm_ (a' := ?_) ?_ ?_
 rotate_left
 ·show Act.put _ (some 19) _ = _
  simp only [Act.put, sA, sZ, sS, i64_w, i32_w]
  rfl
 refine pure_ (i := 14) (N := some 20) (v := ?_) (a' := ?_) #[t_,t_,t_,t_,t_,t_,t_,t_,t_,t_,t_,t_,t_,t_,t_,f_,f_] rfl rfl (any_of HT_.out (by kernel_rfl)) (fun _ _ _ h => h) (Or.inl ⟨by rfl, ?_⟩) ?_ ?_
 rotate_left
 ·intro w'
  go_simp
  with_reducible rfl
 rotate_left
 ·simp only [Act.put, sA, sZ, sS, i64_w, i32_w]
  rfl
 refine pure_ (i := 15) (N := some 21) (v := ?_) (a' := ?_) #[t_,t_,t_,t_,t_,t_,t_,t_,t_,t_,t_,t_,t_,t_,t_,t_,f_] rfl rfl (any_of HT_.out (by kernel_rfl)) (fun _ _ _ h => h) (Or.inl ⟨by rfl, ?_⟩) ?_ ?_
 rotate_left
 ·intro w'
  go_simp
  with_reducible rfl
 rotate_left
 ·simp only [Act.put, sA, sZ, sS, i64_w, i32_w]
  rfl
 refine last_ (i := 16) (N := none) #[t_,t_,t_,t_,t_,t_,t_,t_,t_,t_,t_,t_,t_,t_,t_,t_,t_] rfl rfl (one_of HT_.out (by kernel_rfl)) (by decide) (fun K hK => ?_)
 have hs1 := (blk_cell L1.out 0).trans rfl
 have hfs1 := blk_frozen L1.out 0
 refine skip_ (w1 := w6.setCell ⟨g, 0, none⟩ (.slice A6 (v.l ++ [(⟨kd, xs⟩ : S68)]).length c6)) (by rfl) rfl ?_ ?_
 ·go_simp
 refine hK.out _ _ ?_
 clear hK K
 refine done_ (done_of HT_.out (by kernel_rfl)) ?_
 have hb7 := blk_put L1.out 0 (.slice A6 (v.l ++ [(⟨kd, xs⟩ : S68)]).length c6) rfl
 have hn7 := Kd.N_far (p := ⟨g, 0, none⟩) L2.out (fun k hk => hk.2) (.slice A6 (v.l ++ [(⟨kd, xs⟩ : S68)]).length c6)
 have hw7 := LW.out.set (p := ⟨g, 0, none⟩) (.inl hv.out.has) (.slice A6 (v.l ++ [(⟨kd, xs⟩ : S68)]).length c6)
 generalize w6.setCell ⟨g, 0, none⟩ (.slice A6 (v.l ++ [(⟨kd, xs⟩ : S68)]).length c6) = w7 at hb7 hn7 hw7 ⊢
 have hc1 : w7.cell? ⟨g, 1, none⟩ = some (.int .i64 v.en) := (blk_cell hb7 1).trans rfl
 have hf1 := blk_frozen hb7 1
 have B7 := Aside0.mk hb7
 have N7 := Aside0.mk hn7
 have W7 := Aside0.mk hw7
 clear hb7 hn7 hw7
 go_wp2_with fail
 go_end0
 refine ⟨rfl, W7.out.set (.inl hv.out.has) _, _, Vlt.mkB (S := fun k => S k ∨ w.heap.size ≤ k) (.inl hv.out.has) ⟨_, blk_put B7.out 1 _ rfl, Kd.N_mono (Kd.N_far N7.out (fun k hk => hk.2) _) (fun k hk => ⟨hk.1.imp id (fun h => Nat.le_trans HW'.out.kept.1 h), hk.2⟩)⟩, fun k hk => hk.1⟩
set_option maxHeartbeats 8000000 in
set_option maxRecDepth 100000 in
theorem sync_calls {Sd S : Nat → Prop} {w : World} {g gd : Nat} {d : D} {v : V} (hd : Dev Sd w gd d) (h : Vlt S w g gd v) (hap : ∀ k, S k → ¬ Sd k) :
  Calls Try.prog 64 #[.pointer (some ⟨g, 0, none⟩)] w fun e w' => e = .returned (.int .i64 (if v.dead = true then 28 else (flushD d).2)) ∧ Dev Sd w' gd (if v.dead = true then d else (flushD d).1) ∧ Vlt S w' g gd (if v.dead = true then v else doneV v (flushD d).2) ∧ Went (fun k => S k ∨ Sd k) w w' := by
 have hv := Aside0.mk h
 have hdv := Aside0.mk hd
 have HAP := Aside0.mk hap
 clear h hd hap
 go_enter Try.func64, Try.ntmps64
 go_wp2_with fail
 refine (vnone_calls hv.out).mono ?_
 rintro e w1 ⟨rfl, hb⟩
 have HV := Aside0.mk (hv.out.below hb)
 have HD := Aside0.mk (hdv.out.below hb)
 have HW := Aside0.mk (Went.of_below hb : Went (fun k => S k ∨ Sd k) w w1)
 clear hb
 obtain ⟨ve, h1, _⟩ := HV.out.parts
 have hc3 : w1.cell? ⟨g, 3, none⟩ = some (.bool v.dead) := (blk_cell h1 3).trans rfl
 have hc2 : w1.cell? ⟨g, 2, none⟩ = some (.pointer (some ⟨gd, 0, none⟩)) := (blk_cell h1 2).trans rfl
 clear h1
 by_cases c : v.dead = true
 ·go_wp2_with fail
  go_ret
  exact ⟨rfl, HD.out, HV.out, HW.out⟩
 ·have cb : v.dead = false := Bool.eq_false_iff.2 c
  go_wp2_with fail
  refine (flush_calls HD.out).mono ?_
  rintro e w2 ⟨rfl, hd2, hw2⟩
  have HD2 := Aside0.mk hd2
  have HV2 := Aside0.mk (HV.out.kept hw2.kept HAP.out)
  have HW2 := Aside0.mk (HW.out.trans hw2 (fun k hk => .inl (.inr hk)))
  clear hd2 hw2
  go_wp2_with fail
  refine (done_calls HV2.out (flushD d).2).mono ?_
  rintro e w3 ⟨rfl, hv3, hw3⟩
  have HV3 := Aside0.mk hv3
  have HD3 := Aside0.mk (HD2.out.kept hw3.kept (fun k hk hs => HAP.out k hs hk))
  have HW3 := Aside0.mk (HW2.out.trans hw3 (fun k hk => .inl (.inl hk)))
  clear hv3 hw3
  go_wp2_with fail
  go_ret
  exact ⟨rfl, HD3.out, HV3.out, HW3.out⟩
end Go.Proofs.Ytccjdefhieilpaa.VT
namespace Go.Proofs.Ytccjdefhieilpaa.VT
open Go.RowKit Go.Proofs.YtccjdefhieilpaaW.PrintWords Go.Proofs.YtccjdefhieilpaaW.PrintLast Go.Proofs.YtccjdefhieilpaaW.PrintMore Go.Proofs.Ytccjdefhieilpaa.PB Go.Proofs.Ytccjdefhieilpaa.PL Go.Proofs.Ytccjdefhieilpaa.PG Go.Proofs.Ytccjdefhieilpaa.Pure
attribute [local go_sem] max2_int min2_int max_two min_two max_three min_three max_four min_four   -- for this text's walks alone
set_option linter.unusedVariables false
set_option linter.unusedSimpArgs false
structure Both (Sd S : Nat → Prop) (w : World) (gd g : Nat) (d : D) (v : V) : Prop where
 dev : Dev Sd w gd d
 vlt : Vlt S w g gd v
 apart : ∀ k, S k → ¬ Sd k
theorem Both.below {Sd S : Nat → Prop} {w w' : World} {gd g : Nat} {d : D} {v : V} (h : Both Sd S w gd g d v) (hb : Below w.heap.size w w') : Both Sd S w' gd g d v := ⟨h.dev.below hb, h.vlt.below hb, h.apart⟩
noncomputable def appendV (d : D) (v : V) (e : S68) : D × V × Int :=
 if v.dead = true then (d, v, 28)
 else if Spec.rightE (p68 e) then
  (if wrap64 ((d.b.length : Int) - v.en) < ((Spec.frameL (p68 e)).length : Int) + 1 then (d, v, 9)
   else if (writeD d v.en (Spec.frameL (p68 e) ++ [0])).2 = 0 then ((writeD d v.en (Spec.frameL (p68 e) ++ [0])).1, ⟨v.l ++ [e], wrap64 (v.en + ((Spec.frameL (p68 e)).length : Int)), false⟩, 0)
   else ((writeD d v.en (Spec.frameL (p68 e) ++ [0])).1, ⟨v.l, v.en, true⟩, (writeD d v.en (Spec.frameL (p68 e) ++ [0])).2))
 else (d, v, 2)
def app10.T : Bool × List (List Nat × List Nat) := (true, [([], []), ([], []), ([1], [1]), ([2], [2]), ([3], [3]), ([], []), ([5], [5]), ([6], [6]), ([7], [7]), ([8], [8]), ([], []), ([], []), ([10, 11], [10, 11]), ([4, 9, 12, 12], [4, 9, 12]), ([0, 13, 13], [0, 13]), ([14, 14, 0, 1, 2, 3, 4, 5, 6, 7, 8, 9, 10, 11, 12, 13, 14], [14])])
def app10.B : List Nat := [0, 0, 2, 6, 14, 0, 32, 96, 224, 480, 0, 0, 3072, 8190, 16383, 32767]
theorem app10.tab : rtab .any (opsOf Try.f63 10) = app10.T := by kernel_rfl
theorem app10.bits : waitsOk app10.T.2 app10.B = true := by kernel_rfl
def app13.T : Bool × List (List Nat × List Nat) := (true, [([], []), ([0], [0]), ([1], [1]), ([], []), ([], []), ([4], [4]), ([2, 3, 5], [2, 3, 5])])
def app13.B : List Nat := [0, 1, 3, 0, 0, 16, 63]
theorem app13.tab : rtab .any (opsOf Try.f63 13) = app13.T := by kernel_rfl
theorem app13.bits : waitsOk app13.T.2 app13.B = true := by kernel_rfl
set_option maxHeartbeats 16000000 in
set_option maxRecDepth 100000 in
theorem append_calls {Sd S : Nat → Prop} {w : World} {gd g : Nat} {d : D} {v : V} (h : Both Sd S w gd g d v) (kd : Int) (A : Option Addr) (c : Nat) (xs : List Int) (hF : Kd.F (Kd.int .u8) w (fun k => ¬ (S k ∨ Sd k)) A xs.length xs) (hc : xs.length ≤ c) (hx : xs.length ≤ 140737488355328) (hby : Bytes xs) (hl : v.l.length ≤ 1000000) (hws : d.ws.length ≤ 1000000) :
  Calls Try.prog 63 #[.pointer (some ⟨g, 0, none⟩), .agg #[.int .i64 kd, .slice A xs.length c]] w fun e w' => e = .returned (.int .i64 (appendV d v ⟨kd, xs⟩).2.2) ∧ Went (fun k => S k ∨ Sd k) w w' ∧
   ∃ Sd' S', Both Sd' S' w' gd g (appendV d v ⟨kd, xs⟩).1 (appendV d v ⟨kd, xs⟩).2.1 ∧ ∀ k, S' k ∨ Sd' k → (S k ∨ Sd k) ∨ w.heap.size ≤ k := by
 have HH := Aside0.mk h
 have HF := Aside0.mk hF
 have HX := Aside0.mk hx
 have HLL := Aside0.mk hl
 have HWS := Aside0.mk hws
 have HBY := Aside0.mk hby
 have HCC := Aside0.mk hc
 obtain ⟨kf, hkf⟩ : ∃ kf, 10486000 ≤ kf := ⟨_, Nat.le_refl _⟩
 have hu68 := Try.underlying68
 have hfr := Aside0.mk (frame_eq kf kd xs hby hkf)
 clear h hF hx hl hws hby hkf
 go_enter Try.func63, Try.ntmps63
 go_wp2_with (first | ((with_reducible refine gate_dst (N := 3) rfl ?_); refine box_event ?hg (N := 3) ?hd (cs := #[.int .i64 kd, .slice A xs.length c]) (t := 68) ?hr ?_; (case hd => rfl); (case hg => rfl); (case hr => first | (go_simp; done) | (go_simp; rfl)); intro ge hge w1 hbox hb; have BX := Aside0.mk hbox; have HB1 := Aside0.mk hb; have GE := Aside0.mk (show w.heap.size ≤ ge by rw [hge]; exact Nat.le_refl _); clear hbox hb hge))
 refine (vnone_calls (HH.out.vlt.below HB1.out)).mono ?_
 rintro e w2 ⟨rfl, hb⟩
 have H2 := Aside0.mk ((HH.out.below HB1.out).below hb)
 have HB2 := Aside0.mk (below_step HB1.out hb)
 have BX2 := Aside0.mk (blk_below BX.out hb)
 have HF2 := Aside0.mk (Kd.F_below (Kd.F_below HF.out HB1.out) hb)
 have hca : w2.cell? ⟨ge, 0, none⟩ = some (.int .i64 kd) := (blk_cell BX2.out 0).trans rfl
 have hcb : w2.cell? ⟨ge, 1, none⟩ = some (.slice A xs.length c) := (blk_cell BX2.out 1).trans rfl
 clear hb HB1 BX HF
 obtain ⟨fr, fe, hq⟩ : ∃ (fr : List Int) (fe : Int), (fr, fe) = if Spec.rightE (kd, xs) then (Spec.frameL (kd, xs), (0 : Int)) else ([], 2) := ⟨_, _, rfl⟩
 have HQ := Aside0.mk hq
 have hfr2 := Aside0.mk (show log_Frame.f kf kd xs = some (fr, fe) from hfr.out.trans (congrArg some hq.symm))
 clear hfr hq
 go_wp2_with fail
 refine (log_Frame.calls kf kd A c xs _ _ _ (Kd.F_now HF2.out) HCC.out hfr2.out).mono ?_
 rintro e w3 ⟨vf, rfl, hr3, hb3⟩
 have HR3 := Aside0.mk hr3
 have HB3 := Aside0.mk hb3
 have H3 := Aside0.mk (H2.out.below hb3)
 have HW3 := Aside0.mk (Went.of_below (below_step HB2.out hb3) : Went (fun k => S k ∨ Sd k) w w3)
 clear hr3 hb3 hca hcb
 obtain ⟨ve, h1, _⟩ := H3.out.vlt.parts
 have hc3 : w3.cell? ⟨g, 3, none⟩ = some (.bool v.dead) := (blk_cell h1 3).trans rfl
 clear h1
 obtain ⟨Af, cf, hvf⟩ := Kd.R_slice HR3.out
 subst hvf
 by_cases c1 : v.dead = true
 ·have hE : Aside0 (appendV d v ⟨kd, xs⟩ = (d, v, 28)) := ⟨by unfold appendV; rw [if_pos c1]⟩
  go_wp2_with fail
  go_ret
  exact ⟨by rw [hE.out]; rfl, HW3.out, Sd, S, by rw [hE.out]; exact H3.out, fun k hk => .inl hk⟩
 ·have cb1 : v.dead = false := Bool.eq_false_iff.2 c1
  by_cases c2 : Spec.rightE (kd, xs)
  ·have hn := frame_small kd xs c2
   have hq := HQ.out
   rw [if_pos c2] at hq
   obtain ⟨hq1, hq2⟩ := Prod.mk.inj hq
   subst hq2
   rw [← hq1] at hn
   have HFL := Aside0.mk (show Spec.frameL (p68 ⟨kd, xs⟩) = fr from hq1.symm)
   have hw1 : wrap64 ((fr.length : Int) + 1) = (fr.length : Int) + 1 := by unfold wrap64; omega
   have HNF := Aside0.mk hn
   clear hq hq1 HQ hn
   go_wp2_with fail
   refine (room_calls H3.out.dev H3.out.vlt).mono ?_
   rintro e w4 ⟨rfl, hb4⟩
   have H4 := Aside0.mk (H3.out.below hb4)
   have HR4 := Aside0.mk (Kd.R_below HR3.out hb4)
   have HB4 := Aside0.mk (below_step HB3.out hb4)
   have HW4 := Aside0.mk (HW3.out.step hb4)
   clear hb4 hc3
   by_cases c3 : wrap64 ((d.b.length : Int) - v.en) < (fr.length : Int) + 1
   ·have cb3 : decide (wrap64 ((d.b.length : Int) - v.en) < (fr.length : Int) + 1) = true := decide_eq_true c3
    have hE : Aside0 (appendV d v ⟨kd, xs⟩ = (d, v, 9)) := ⟨by unfold appendV; rw [if_neg c1, if_pos (show Spec.rightE (p68 ⟨kd, xs⟩) from c2), HFL.out, if_pos c3]⟩
    go_wp2_with fail
    go_ret
    exact ⟨by rw [hE.out]; rfl, HW4.out, Sd, S, by rw [hE.out]; exact H4.out, fun k hk => .inl hk⟩
   ·have cb3 : decide (wrap64 ((d.b.length : Int) - v.en) < (fr.length : Int) + 1) = false := decide_eq_false c3
    go_wp2_with fail
    obtain ⟨ve, h1, _⟩ := H4.out.vlt.parts
    have HF4 := Aside0.mk (Kd.F_below HF2.out HB4.out)
    have BX4 := Aside0.mk (blk_below BX2.out HB4.out)
    refine start_ (n := 16) (S := fun w' => w'.cell? ⟨g, 2, none⟩ = some (.pointer (some ⟨gd, 0, none⟩)) ∧ w'.cell? ⟨g, 1, none⟩ = some (.int .i64 v.en)) (ds := []) #[f_,f_,f_,f_,f_,f_,f_,f_,f_,f_,f_,f_,f_,f_,f_,f_] (by kernel_rfl) rfl rfl ⟨(blk_cell h1 2).trans rfl, (blk_cell h1 1).trans rfl⟩ (fun hHeld => ?_); refine with_tabW app10.tab app10.bits (fun HT_ HW_ => ?_)
    have J0 := Aside0.mk (H4.out.below (below_drew (Below.refl _ _))); have JR := Aside0.mk (Kd.R_drew HR4.out); have JB := Aside0.mk (below_drew1 HB4.out); have JW := Aside0.mk (HW4.out.step (below_drew (Below.refl _ _))); clear h1 H4 HR4 HB4 HW4 HF4 BX4; generalize w4.drew = w5 at J0 JR JB JW hHeld ⊢
    refine pure_ (i := 0) (N := some 31) (v := ?_) (a' := ?_) #[t_,f_,f_,f_,f_,f_,f_,f_,f_,f_,f_,f_,f_,f_,f_,f_] rfl rfl (any_of HT_.out (by kernel_rfl)) (fun _ _ _ h => h) (Or.inl ⟨by rfl, ?_⟩) ?_ ?_
    rotate_left
    ·intro w'
     go_simp
     with_reducible rfl
    rotate_left
    ·simp only [Act.put, sA, sZ, sS, i64_w, i32_w]
     rfl
    refine pure_ (i := 1) (N := some 32) (v := ?_) (a' := ?_) #[t_,t_,f_,f_,f_,f_,f_,f_,f_,f_,f_,f_,f_,f_,f_,f_] rfl rfl (any_of HT_.out (by kernel_rfl)) (fun _ _ _ h => h) (Or.inl ⟨by rfl, ?_⟩) ?_ ?_
    rotate_left
    ·intro w'
     go_simp
     with_reducible rfl
    rotate_left
    ·simp only [Act.put, sA, sZ, sS, i64_w, i32_w]
     rfl
    refine pure_ (i := 2) (N := some 33) (v := ?_) (a' := ?_) #[t_,t_,t_,f_,f_,f_,f_,f_,f_,f_,f_,f_,f_,f_,f_,f_] rfl rfl (any_of HT_.out (by kernel_rfl)) (fun _ _ _ h => h) (Or.inl ⟨by rfl, ?_⟩) ?_ ?_
    rotate_left
    ·intro w'
     go_simp
     with_reducible rfl
    rotate_left
    ·simp only [Act.put, sA, sZ, sS, i64_w, i32_w]
     rfl
    refine pure_ (i := 3) (N := some 34) (v := ?_) (a' := ?_) #[t_,t_,t_,t_,f_,f_,f_,f_,f_,f_,f_,f_,f_,f_,f_,f_] rfl rfl (any_of HT_.out (by kernel_rfl)) (fun _ _ _ h => h) (Or.inl ⟨by rfl, ?_⟩) ?_ ?_
    rotate_left
    ·intro w'
     go_simp
     with_reducible rfl
    rotate_left
    ·simp only [Act.put, sA, sZ, sS, i64_w, i32_w]
     rfl
    refine take_ (i := 4) (N := some 35) (v := ?_) (a' := ?_) #[t_,t_,t_,t_,t_,f_,f_,f_,f_,f_,f_,f_,f_,f_,f_,f_] rfl rfl (take_ofW HT_.out HW_.out (by kernel_rfl)) (fun _ _ _ h => h) (Or.inl ⟨by rfl, ?_⟩) hHeld ?_ ?_
    rotate_left
    ·rintro w' ⟨s0, s1⟩
     go_simp
     with_reducible rfl
    rotate_left
    ·simp only [Act.put, sA, sZ, sS, i64_w, i32_w]
     rfl
    refine pure_ (i := 5) (N := some 36) (v := ?_) (a' := ?_) #[t_,t_,t_,t_,t_,t_,f_,f_,f_,f_,f_,f_,f_,f_,f_,f_] rfl rfl (any_of HT_.out (by kernel_rfl)) (fun _ _ _ h => h) (Or.inl ⟨by rfl, ?_⟩) ?_ ?_
    rotate_left
    ·intro w'
     go_simp
     with_reducible rfl
    rotate_left
    ·simp only [Act.put, sA, sZ, sS, i64_w, i32_w]
     rfl
    refine pure_ (i := 6) (N := some 37) (v := ?_) (a' := ?_) #[t_,t_,t_,t_,t_,t_,t_,f_,f_,f_,f_,f_,f_,f_,f_,f_] rfl rfl (any_of HT_.out (by kernel_rfl)) (fun _ _ _ h => h) (Or.inl ⟨by rfl, ?_⟩) ?_ ?_
    rotate_left
    ·intro w'
     go_simp
     with_reducible rfl
    rotate_left
    ·simp only [Act.put, sA, sZ, sS, i64_w, i32_w]
     rfl
    refine pure_ (i := 7) (N := some 38) (v := ?_) (a' := ?_) #[t_,t_,t_,t_,t_,t_,t_,t_,f_,f_,f_,f_,f_,f_,f_,f_] rfl rfl (any_of HT_.out (by kernel_rfl)) (fun _ _ _ h => h) (Or.inl ⟨by rfl, ?_⟩) ?_ ?_
    rotate_left
    ·intro w'
     go_simp
     with_reducible rfl
    rotate_left
    ·simp only [Act.put, sA, sZ, sS, i64_w, i32_w]
     rfl
    refine pure_ (i := 8) (N := some 39) (v := ?_) (a' := ?_) #[t_,t_,t_,t_,t_,t_,t_,t_,t_,f_,f_,f_,f_,f_,f_,f_] rfl rfl (any_of HT_.out (by kernel_rfl)) (fun _ _ _ h => h) (Or.inl ⟨by rfl, ?_⟩) ?_ ?_
    rotate_left
    ·intro w'
     go_simp
     with_reducible rfl
    rotate_left
    ·simp only [Act.put, sA, sZ, sS, i64_w, i32_w]
     rfl
    refine take_ (i := 9) (N := some 40) (v := ?_) (a' := ?_) #[t_,t_,t_,t_,t_,t_,t_,t_,t_,t_,f_,f_,f_,f_,f_,f_] rfl rfl (take_ofW HT_.out HW_.out (by kernel_rfl)) (fun _ _ _ h => h) (Or.inl ⟨by rfl, ?_⟩) hHeld ?_ ?_
    rotate_left
    ·rintro w' ⟨s0, s1⟩
     go_simp
     with_reducible rfl
    rotate_left
    ·simp only [Act.put, sA, sZ, sS, i64_w, i32_w]
     rfl
    refine pure_ (i := 10) (N := some 41) (v := ?_) (a' := ?_) #[t_,t_,t_,t_,t_,t_,t_,t_,t_,t_,t_,f_,f_,f_,f_,f_] rfl rfl (any_of HT_.out (by kernel_rfl)) (fun _ _ _ h => h) (Or.inl ⟨by rfl, ?_⟩) ?_ ?_
    rotate_left
    ·intro w'
     go_simp
     with_reducible rfl
    rotate_left
    ·simp only [Act.put, sA, sZ, sS, i64_w, i32_w]
     rfl
    refine one_ (i := 11) (N := some 42) #[t_,t_,t_,t_,t_,t_,t_,t_,t_,t_,t_,t_,f_,f_,f_,f_] rfl rfl (one_of HT_.out (by kernel_rfl)) (by decide) (fun K hK => ?_)
    refine lit_step (by rfl) (N := 42) ?hd (cs := #[.int .u8 0]) (t := 5) (m := 1) ?hr ?_; (case hd => rfl); (case hr => first | (go_simp; done) | (go_simp; rfl))
    intro gl hgl w6 hl6 hb6
    have HL := Aside0.mk hl6
    have J1 := Aside0.mk (J0.out.below hb6)
    have JR1 := Aside0.mk (Kd.R_below JR.out hb6)
    have JB1 := Aside0.mk (below_step JB.out hb6)
    have JW1 := Aside0.mk (JW.out.step hb6)
    clear hl6 hb6 hgl
    obtain ⟨ve, h1, _⟩ := J1.out.vlt.parts
    refine hK.out _ _ ⟨(blk_cell h1 2).trans rfl, (blk_cell h1 1).trans rfl⟩ (fun hHeld => ?_)
    clear hK K
    refine norm_ (a' := ?_) ?_ ?_
    rotate_left
    ·show Act.put _ (some 42) _ = _
     simp only [Act.put, sA, sZ, sS, i64_w, i32_w]
     rfl
    clear h1
    refine one_ (i := 12) (N := some 43) #[t_,t_,t_,t_,t_,t_,t_,t_,t_,t_,t_,t_,t_,f_,f_,f_] rfl rfl (one_of HT_.out (by kernel_rfl)) (by decide) (fun K hK => ?_)
    refine Kd.R_append_rows_step (Kd.int .u8) (w0 := w2) w2.heap.size (by rfl) (.tmp 41) (.tmp 42) 44 5 (.int .u8 0) 1 rfl Try.underlying44 PL.info5 rfl (by decide) (by omega) (.slice Af fr.length cf) fr [0] (some ⟨gl, 0, none⟩) 1 1 (fun _ => True) (fun _ => False) rfl rfl JR1.out (rawC (xs := [0]) (sp := []) HL.out (by simp)) (fun _ _ h => h) (fun _ h => h.elim) (fun _ _ => trivial) JB1.out JB1.out.size (by have := HNF.out; omega) ?_
    intro v7 w7 hr7 hb7 hg7 hat7
    obtain ⟨A7, c7, hv7, hc7, hC7⟩ := Kd.R_reads hr7
    subst hv7
    have H7 := Aside0.mk (H2.out.below hb7)
    have HF7 := Aside0.mk (Kd.F_below HF2.out hb7)
    have BX7 := Aside0.mk (blk_below BX2.out hb7)
    have HB7 := Aside0.mk hb7
    have HV7 := Aside0.mk hr7
    have HC7 := Aside0.mk hc7
    have HW7 := Aside0.mk (Went.of_below (below_step HB2.out hb7) : Went (fun k => S k ∨ Sd k) w w7)
    clear hr7 hb7 hg7 hat7 hC7 hc7 J0 JR JB JW J1 JR1 JB1 JW1 HL
    obtain ⟨ve, h1, _⟩ := H7.out.vlt.parts
    refine hK.out _ _ ⟨(blk_cell h1 2).trans rfl, (blk_cell h1 1).trans rfl⟩ (fun hHeld => ?_)
    clear hK K
    refine norm_ (a' := ?_) ?_ ?_
    rotate_left
    ·show Act.put _ (some 43) _ = _
     simp only [Act.put, sA, sZ, sS, i64_w, i32_w]
     rfl
    clear h1
    refine one_ (i := 13) (N := some 44) #[t_,t_,t_,t_,t_,t_,t_,t_,t_,t_,t_,t_,t_,t_,f_,f_] rfl rfl (one_of HT_.out (by kernel_rfl)) (by decide) (fun K hK => ?_)
    refine goes_ Try.func77 (by kernel_rfl) rfl #[.pointer (some ⟨gd, 0, none⟩), .int .i64 v.en, .slice A7 (fr ++ [0]).length c7] (by rfl) rfl rfl (by (try simp only [List.map_toArray, List.map_cons, List.map_nil]); first | done | rfl) ?_
    refine (write_calls H7.out.dev v.en A7 c7 (fr ++ [0]) (Kd.F_mono (Kd.R_F (Kd.R_bound HV7.out)) (fun k hk hs => by have h8 := H2.out.dev.lt k hs; have h9 := hk.2.1; omega)) HC7.out HWS.out).mono ?_
    rintro e w8 ⟨rfl, hw8, Sd', hd8, hs8⟩
    refine ⟨_, rfl, ?_⟩
    have D8 := Aside0.mk hd8
    have V8 := Aside0.mk (H7.out.vlt.kept hw8.kept H7.out.apart)
    have HF8 := Aside0.mk (Kd.F_kept HF7.out hw8.kept (fun k hk hs => hk (.inr hs)))
    have HW8 := Aside0.mk (HW7.out.trans hw8 (fun k hk => .inl (.inr hk)))
    have BX8 := Aside0.mk (show w8.heap[ge]? = some (.cells #[.int .i64 kd, .slice A xs.length c] 68 (0, 0)) from blk_kept BX7.out hw8.kept (fun hs => by have h8 := HH.out.dev.lt ge hs; have h9 := GE.out; omega))
    have HS8 := Aside0.mk (show ∀ k, S k → ¬ Sd' k from fun k hk hs => by
     rcases hs8 k hs with h8 | h8
     ·exact H7.out.apart k hk h8
     ·have h9 := H7.out.vlt.lt k hk
      omega)
    have HN8 := Aside0.mk (show ∀ k, Sd' k → Sd k ∨ w.heap.size ≤ k from fun k hk => (hs8 k hk).imp id (fun h => Nat.le_trans HW7.out.kept.1 h))
    clear hw8 hd8 hs8
    obtain ⟨ve, h1, _⟩ := V8.out.parts
    refine hK.out _ _ ⟨(blk_cell h1 2).trans rfl, (blk_cell h1 1).trans rfl⟩ (fun hHeld => ?_)
    clear hK K
    refine norm_ (a' := ?_) ?_ ?_
    rotate_left
    ·show Act.put _ (some 44) _ = _
     simp only [Act.put, sA, sZ, sS, i64_w, i32_w]
     rfl
    clear h1
    refine one_ (i := 14) (N := some 45) #[t_,t_,t_,t_,t_,t_,t_,t_,t_,t_,t_,t_,t_,t_,t_,f_] rfl rfl (one_of HT_.out (by kernel_rfl)) (by decide) (fun K hK => ?_)
    refine goes_ Try.func124 (by kernel_rfl) rfl #[.pointer (some ⟨g, 0, none⟩), .int .i64 (writeD d v.en (fr ++ [0])).2] (by rfl) rfl rfl (by (try simp only [List.map_toArray, List.map_cons, List.map_nil]); first | done | rfl) ?_
    refine (done_calls V8.out (writeD d v.en (fr ++ [0])).2).mono ?_
    rintro e w9 ⟨rfl, hv9, hw9⟩
    refine ⟨_, rfl, ?_⟩
    have V9 := Aside0.mk hv9
    have D9 := Aside0.mk (D8.out.kept hw9.kept (fun k hk hs => HS8.out k hs hk))
    have HF9 := Aside0.mk (Kd.F_kept HF8.out hw9.kept (fun k hk hs => hk (.inl hs)))
    have HW9 := Aside0.mk (HW8.out.trans hw9 (fun k hk => .inl (.inl hk)))
    have BX9 := Aside0.mk (blk_kept BX8.out hw9.kept (fun hs => by have h8 := HH.out.vlt.lt ge hs; have h9 := GE.out; omega))
    clear hw9 hv9
    obtain ⟨ve, h1, _⟩ := V9.out.parts
    refine hK.out _ _ ⟨(blk_cell h1 2).trans rfl, (blk_cell h1 1).trans rfl⟩ (fun hHeld => ?_)
    clear hK K
    refine norm_ (a' := ?_) ?_ ?_
    rotate_left
    ·show Act.put _ (some 45) _ = _
     simp only [Act.put, sA, sZ, sS, i64_w, i32_w]
     rfl
    clear h1
    refine pure_ (i := 15) (N := some 7) (v := ?_) (a' := ?_) #[t_,t_,t_,t_,t_,t_,t_,t_,t_,t_,t_,t_,t_,t_,t_,t_] rfl rfl (any_of HT_.out (by kernel_rfl)) (fun _ _ _ h => h) (Or.inl ⟨by rfl, ?_⟩) ?_ ?_
    rotate_left
    ·intro w'
     go_simp
     with_reducible rfl
    rotate_left
    ·simp only [Act.put, sA, sZ, sS, i64_w, i32_w]
     rfl
    refine done_ (done_of HT_.out (by kernel_rfl)) ?_
    by_cases c4 : (writeD d v.en (fr ++ [0])).2 = 0
    ·have cb4 : ((writeD d v.en (fr ++ [0])).2 != 0) = false := bne_eq_false_iff_eq.mpr c4
     have hE : Aside0 (appendV d v ⟨kd, xs⟩ = ((writeD d v.en (fr ++ [0])).1, ⟨v.l ++ [⟨kd, xs⟩], wrap64 (v.en + (fr.length : Int)), false⟩, 0)) := ⟨by unfold appendV; rw [if_neg c1, if_pos (show Spec.rightE (p68 ⟨kd, xs⟩) from c2), HFL.out, if_neg (by omega), if_pos c4]⟩
     have hdn : Aside0 (doneV v (writeD d v.en (fr ++ [0])).2 = ⟨v.l, v.en, false⟩) := ⟨by unfold doneV; rw [cb1, c4]; rfl⟩
     go_wp2_with fail
     refine start_ (n := 7) (S := fun w' => w'.cell? ⟨ge, 0, none⟩ = some (.int .i64 kd) ∧ w'.cell? ⟨ge, 1, none⟩ = some (.slice A xs.length c)) (ds := []) #[f_,f_,f_,f_,f_,f_,f_] (by kernel_rfl) rfl rfl ⟨(blk_cell BX9.out 0).trans rfl, (blk_cell BX9.out 1).trans rfl⟩ (fun hHeld => ?_); refine with_tabW app13.tab app13.bits (fun HT_ HW_ => ?_)
     have VA := Aside0.mk (V9.out.below (below_drew (Below.refl _ _))); have DA := Aside0.mk (D9.out.below (below_drew (Below.refl _ _))); have FA := Aside0.mk (Kd.F_drew HF9.out); have WA := Aside0.mk (HW9.out.step (below_drew (Below.refl _ _))); have BA := Aside0.mk (blk_drew BX9.out); clear V9 D9 HF9 HW9 BX9; generalize w9.drew = wa at VA DA FA WA BA hHeld ⊢
     refine pure_ (i := 0) (N := some 49) (v := ?_) (a' := ?_) #[t_,f_,f_,f_,f_,f_,f_] rfl rfl (any_of HT_.out (by kernel_rfl)) (fun _ _ _ h => h) (Or.inl ⟨by rfl, ?_⟩) ?_ ?_
     rotate_left
     ·intro w'
      go_simp
      with_reducible rfl
     rotate_left
     ·simp only [Act.put, sA, sZ, sS, i64_w, i32_w]
      rfl
     refine pure_ (i := 1) (N := some 50) (v := ?_) (a' := ?_) #[t_,t_,f_,f_,f_,f_,f_] rfl rfl (any_of HT_.out (by kernel_rfl)) (fun _ _ _ h => h) (Or.inl ⟨by rfl, ?_⟩) ?_ ?_
     rotate_left
     ·intro w'
      go_simp
      with_reducible rfl
     rotate_left
     ·simp only [Act.put, sA, sZ, sS, i64_w, i32_w]
      rfl
     refine pure_ (i := 2) (N := some 51) (v := ?_) (a' := ?_) #[t_,t_,t_,f_,f_,f_,f_] rfl rfl (any_of HT_.out (by kernel_rfl)) (fun _ _ _ h => h) (Or.inl ⟨by rfl, ?_⟩) ?_ ?_
     rotate_left
     ·intro w'
      go_simp
      with_reducible rfl
     rotate_left
     ·simp only [Act.put, sA, sZ, sS, i64_w, i32_w]
      rfl
     refine take_ (i := 3) (N := some 52) (v := ?_) (a' := ?_) #[t_,t_,t_,t_,f_,f_,f_] rfl rfl (take_ofW HT_.out HW_.out (by kernel_rfl)) (fun _ _ _ h => h) (Or.inl ⟨by rfl, ?_⟩) hHeld ?_ ?_
     rotate_left
     ·rintro w' ⟨s0, s1⟩
      go_simp
      with_reducible rfl
     rotate_left
     ·simp only [Act.put, sA, sZ, sS, i64_w, i32_w]
      rfl
     refine pure_ (i := 4) (N := some 53) (v := ?_) (a' := ?_) #[t_,t_,t_,t_,t_,f_,f_] rfl rfl (any_of HT_.out (by kernel_rfl)) (fun _ _ _ h => h) (Or.inl ⟨by rfl, ?_⟩) ?_ ?_
     rotate_left
     ·intro w'
      go_simp
      with_reducible rfl
     rotate_left
     ·simp only [Act.put, sA, sZ, sS, i64_w, i32_w]
      rfl
     refine pure_ (i := 5) (N := some 54) (v := ?_) (a' := ?_) #[t_,t_,t_,t_,t_,t_,f_] rfl rfl (any_of HT_.out (by kernel_rfl)) (fun _ _ _ h => h) (Or.inl ⟨by rfl, ?_⟩) ?_ ?_
     rotate_left
     ·intro w'
      go_simp
      with_reducible rfl
     rotate_left
     ·simp only [Act.put, sA, sZ, sS, i64_w, i32_w]
      rfl
     refine one_ (i := 6) (N := some 55) #[t_,t_,t_,t_,t_,t_,t_] rfl rfl (one_of HT_.out (by kernel_rfl)) (by decide) (fun K hK => ?_)
     refine goes_ Try.func122 (by kernel_rfl) rfl #[.pointer (some ⟨g, 0, none⟩), .agg #[.int .i64 kd, .slice A xs.length c], .int .i64 (fr.length : Int)] (by rfl) rfl rfl (by (try simp only [List.map_toArray, List.map_cons, List.map_nil]); first | done | rfl) ?_
     refine (add_calls VA.out kd A c xs (fr.length : Int) (Kd.F_mono FA.out (fun k hk hs => hk (.inl hs))) HCC.out HX.out HLL.out).mono ?_
     rintro e wb ⟨rfl, hwb, S', hvb, hsb⟩
     refine ⟨_, rfl, ?_⟩
     have VB := Aside0.mk hvb
     have DB := Aside0.mk (DA.out.kept hwb.kept (fun k hk hs => HS8.out k hs hk))
     have WB := Aside0.mk (WA.out.trans hwb (fun k hk => .inl (.inl hk)))
     have BB := blk_kept BA.out hwb.kept (fun hs => by have h8 := HH.out.vlt.lt ge hs; have h9 := GE.out; omega)
     have AB := Aside0.mk (show ∀ k, S' k → ¬ Sd' k from fun k hk hs => by
      rcases hsb k hk with h8 | h8
      ·exact HS8.out k h8 hs
      ·have h9 := DA.out.lt k hs
       omega)
     have NB := Aside0.mk (show ∀ k, S' k → S k ∨ w.heap.size ≤ k from fun k hk => (hsb k hk).imp id (fun h => Nat.le_trans WA.out.kept.1 h))
     clear hwb hvb hsb
     refine hK.out _ _ ⟨(blk_cell BB 0).trans rfl, (blk_cell BB 1).trans rfl⟩ (fun hHeld => ?_)
     clear hK K
     refine norm_ (a' := ?_) ?_ ?_
     rotate_left
     ·show Act.put _ (some 55) _ = _
      simp only [Act.put, sA, sZ, sS, i64_w, i32_w]
      rfl
     refine done_ (done_of HT_.out (by kernel_rfl)) ?_
     go_wp2_with fail
     go_ret
     refine ⟨by rw [hE.out]; rfl, WB.out, Sd', S', ?_, fun k hk => hk.elim (fun h => (NB.out k h).imp .inl id) (fun h => (HN8.out k h).imp .inr id)⟩
     rw [hE.out]
     have hv := VB.out
     rw [hdn.out] at hv
     exact ⟨DB.out, hv, AB.out⟩
    ·have cb4 : ((writeD d v.en (fr ++ [0])).2 != 0) = true := bne_iff_ne.mpr c4
     have hE : Aside0 (appendV d v ⟨kd, xs⟩ = ((writeD d v.en (fr ++ [0])).1, ⟨v.l, v.en, true⟩, (writeD d v.en (fr ++ [0])).2)) := ⟨by unfold appendV; rw [if_neg c1, if_pos (show Spec.rightE (p68 ⟨kd, xs⟩) from c2), HFL.out, if_neg (by omega), if_neg c4]⟩
     have hdn : Aside0 (doneV v (writeD d v.en (fr ++ [0])).2 = ⟨v.l, v.en, true⟩) := ⟨by unfold doneV; rw [cb1, cb4]; rfl⟩
     go_wp2_with fail
     go_ret
     refine ⟨by rw [hE.out]; rfl, HW9.out, Sd', S, ?_, fun k hk => hk.elim (fun h => .inl (.inl h)) (fun h => (HN8.out k h).imp .inr id)⟩
     rw [hE.out]
     have hv := V9.out
     rw [hdn.out] at hv
     exact ⟨D9.out, hv, HS8.out⟩
  ·have hE : Aside0 (appendV d v ⟨kd, xs⟩ = (d, v, 2)) := ⟨by unfold appendV; rw [if_neg c1, if_neg (show ¬ Spec.rightE (p68 ⟨kd, xs⟩) from c2)]⟩
   have hq := HQ.out
   rw [if_neg c2] at hq
   obtain ⟨hq1, hq2⟩ := Prod.mk.inj hq
   subst hq1
   subst hq2
   clear hq HQ
   go_wp2_with fail
   go_ret
   exact ⟨by rw [hE.out]; rfl, HW3.out, Sd, S, by rw [hE.out]; exact H3.out, fun k hk => .inl hk⟩
end Go.Proofs.Ytccjdefhieilpaa.VT
namespace Go.Proofs.Ytccjdefhieilpaa.VT
open Go.RowKit Go.Proofs.YtccjdefhieilpaaW.PrintWords Go.Proofs.YtccjdefhieilpaaW.PrintLast Go.Proofs.YtccjdefhieilpaaW.PrintMore Go.Proofs.Ytccjdefhieilpaa.PB Go.Proofs.Ytccjdefhieilpaa.PL Go.Proofs.Ytccjdefhieilpaa.PG Go.Proofs.Ytccjdefhieilpaa.Pure
attribute [local go_sem] max2_int min2_int max_two min_two max_three min_three max_four min_four   -- for this text's walks alone
set_option linter.unusedVariables false
set_option linter.unusedSimpArgs false
def ent7.T : Bool × List (List Nat × List Nat) := (true, [([], []), ([], []), ([1], [1]), ([], []), ([], []), ([4], [4]), ([3, 5], [3, 5]), ([2, 6], [2, 6]), ([7], [7]), ([0, 8, 6], [0, 8]), ([9, 9, 0, 1, 2, 3, 4, 5, 6, 7, 8, 9], [0, 9])])
def ent7.B : List Nat := [0, 0, 2, 0, 0, 16, 56, 126, 254, 511, 1023]
theorem ent7.tab : rtab .any (opsOf Try.f67 7) = ent7.T := by kernel_rfl
theorem ent7.bits : waitsOk ent7.T.2 ent7.B = true := by kernel_rfl
theorem T68_take (ws : List S68) (i : Nat) (h : i < ws.length) : ws.take (i + 1) = ws.take i ++ [rd_T68 ws (i : Int)] := by
 unfold rd_T68
 rw [Int.toNat_natCast, List.getD_eq_getElem?_getD, List.getElem?_eq_getElem h, List.take_add_one, List.getElem?_eq_getElem h]
 rfl
set_option maxHeartbeats 8000000 in
set_option maxRecDepth 100000 in
theorem entries_calls {S : Nat → Prop} {w : World} {g gd : Nat} {v : V} (h : Vlt S w g gd v) (hl : v.l.length ≤ 1000000) (hsm : ∀ x ∈ v.l, x.f1.length ≤ 1048576) :
  Calls Try.prog 67 #[.pointer (some ⟨g, 0, none⟩)] w fun e w' => ∃ u, e = .returned u ∧ Kd.S k68 68 w' w.heap.size (fun _ => True) u v.l ∧ Below w.heap.size w w' := by
 have hv := Aside0.mk h
 have HL := Aside0.mk hl
 have HSM := Aside0.mk hsm
 have hu68 := Try.underlying68
 clear h hl hsm
 go_enter Try.func67, Try.ntmps67
 go_wp2_with fail
 refine (vnone_calls hv.out).mono ?_
 rintro e w1 ⟨rfl, hb⟩
 obtain ⟨ve, h1, h2⟩ := hv.out.parts
 obtain ⟨Ae, ce, rfl⟩ := Kd.N_slice h2
 have h1 := blk_below h1 hb
 have h2 := Kd.N_below (Kd.N_mono h2 (ok' := fun k => k < w.heap.size) (fun k hk => hv.out.lt k hk.1)) hb
 have hc0 : w1.cell? ⟨g, 0, none⟩ = some (.slice Ae v.l.length ce) := (blk_cell h1 0).trans rfl
 have HN := Aside0.mk h2
 have HB := Aside0.mk hb
 clear h1 h2 hb
 go_wp2_with fail
 go_loopg [3, 14] v.l.length (fun kq v3 v14 w' => ∃ i : Nat, v14 = .int .i64 (i : Int) ∧ Aside0 (i + kq = v.l.length) ∧ Aside0 (Kd.S k68 68 w' w.heap.size (fun _ => True) v3 (v.l.take i)) ∧ Aside0 (Kd.N k68 68 w' 0 (fun k => k < w.heap.size) (.slice Ae v.l.length ce) v.l) ∧ Aside0 (Below w.heap.size w w'))
 case atStart => exact ⟨0, rfl, ⟨Nat.zero_add _⟩, ⟨Kd.S_nil _ _ _ _ _⟩, HN, HB⟩
 case round =>
  clear HN HB hc0
  obtain ⟨i, rfl, HK, HS, HN, HB⟩ := hrel
  cases gk with
  | zero =>
   have hin : i = v.l.length := by have := HK.out; omega
   have q1 : (i < v.l.length) = False := eq_false (by omega)
   go_wp2_with fail
   go_ret
   have hs := HS.out
   rw [hin, List.take_length] at hs
   exact ⟨_, rfl, hs, HB.out⟩
  | succ k1 =>
   have hin : i < v.l.length := by have := HK.out; omega
   obtain ⟨ad, A1, c1, hA, hx0, hx1, hl1, hC1⟩ := at_T68 (Kd.N_reads' HN.out).2.2 (i : Int) (by omega) (by omega)
   subst hA
   have hsnoc := T68_take v.l i hin
   have hpl : (v.l.take i).length ≤ 1000000 := by have := HL.out; rw [List.length_take]; omega
   generalize v.l.take i = pre at HS hsnoc hpl
   have HPL := Aside0.mk hpl
   clear hpl
   have hsm := HSM.out _ (T68_mem v.l i hin)
   have p0 : (0 : Int) ≤ (i : Int) := by omega
   replace p0 := eq_true p0
   have q1 : (i < v.l.length) = True := eq_true hin
   rw [Int.toNat_natCast] at hx0 hx1
   generalize rd_T68 v.l (i : Int) = x at *
   have HX := Aside0.mk hC1
   have HSN := Aside0.mk hsnoc
   have HXS := Aside0.mk hsm
   have hin2 := Aside0.mk hin
   have HL1 := Aside0.mk hl1
   clear hC1 hsnoc hin hl1 hsm
   go_wp2_with (first | ((with_reducible refine gate_dst (N := 5) rfl ?_); refine box_event ?hg (N := 5) ?hd (cs := #[.int .i64 0, .slice none 0 0]) (t := 68) ?hr ?_; (case hd => rfl); (case hg => rfl); (case hr => first | (go_simp; done) | (go_simp; rfl)); intro gx hgx w2 hbox hb; have BX := Aside0.mk hbox; have HB2 := Aside0.mk hb; have GX := Aside0.mk hgx; clear hbox hb hgx; have hy0 : w2.cell? ⟨gx, 0, none⟩ = some (.int .i64 0) := (blk_cell BX.out 0).trans rfl; have hy1 : w2.cell? ⟨gx, 1, none⟩ = some (.slice none 0 0) := (blk_cell BX.out 1).trans rfl; have hz0 := blk_frozen BX.out 0; have hz1 := blk_frozen BX.out 1) | ((with_reducible refine gate_store (t := 68) (p := 5) rfl ?_); refine store_event (t := 68) (p := 5) (v := ?vo) (w1 := ((w2.setCell ⟨gx, 0, none⟩ (.int .i64 x.f0)).setCell ⟨gx, 1, none⟩ (.slice A1 x.f1.length c1))) ?hg ?ho ?hn ?hr ?_; (case ho => rfl); (case hg => rfl); (case hn => rfl); (case hr => first | (go_simp; done) | (go_simp; rfl)); intro w3 hw3; have hb3 : Below wr.heap.size wr w3 := (by rw [hw3]; exact (HB2.out.setCell (by rw [GX.out]; exact Nat.le_refl _) _).setCell (by rw [GX.out]; exact Nat.le_refl _) _); have BX3 : w3.heap[gx]? = some (.cells #[.int .i64 x.f0, .slice A1 x.f1.length c1] 68 (0, 0)) := (by rw [hw3]; exact blk_put (blk_put BX.out 0 _ rfl) 1 _ rfl); have HB33 := Aside0.mk (below_step HB.out hb3); have HS3 := Aside0.mk (Kd.S_below HS.out hb3); have HN3 := Aside0.mk (Kd.N_below HN.out hb3); have HX3 := Aside0.mk (Kd.C_below HX.out hb3); clear hw3 hb3 hy0 hy1 hz0 hz1 BX HB2; have BX3 := Aside0.mk BX3))
   obtain ⟨A3, c3, hv3⟩ := Kd.S_slice HS3.out
   subst hv3
   refine start_ (n := 11) (S := fun w' => w'.cell? ⟨gx, 0, none⟩ = some (.int .i64 x.f0) ∧ w'.cell? ⟨gx, 1, none⟩ = some (.slice A1 x.f1.length c1)) (ds := []) #[f_,f_,f_,f_,f_,f_,f_,f_,f_,f_,f_] (by kernel_rfl) rfl rfl ⟨(blk_cell BX3.out 0).trans rfl, (blk_cell BX3.out 1).trans rfl⟩ (fun hHeld => ?_); refine with_tabW ent7.tab ent7.bits (fun HT_ HW_ => ?_)
   have HB4 := Aside0.mk (below_drew1 HB33.out); have HS4 := Aside0.mk (Kd.S_below HS3.out (below_drew (Below.refl _ _))); have HN4 := Aside0.mk (Kd.N_drew HN3.out); have HX4 := Aside0.mk (Kd.C_drew HX3.out); have BX4 := Aside0.mk (blk_drew BX3.out); clear HB33 HS3 HN3 HX3 BX3; generalize w3.drew = w4 at HB4 HS4 HN4 HX4 BX4 hHeld ⊢
   refine pure_ (i := 0) (N := some 18) (v := ?_) (a' := ?_) #[t_,f_,f_,f_,f_,f_,f_,f_,f_,f_,f_] rfl rfl (any_of HT_.out (by kernel_rfl)) (fun _ _ _ h => h) (Or.inl ⟨by rfl, ?_⟩) ?_ ?_
   rotate_left
   ·intro w'
    go_simp
    with_reducible rfl
   rotate_left
   ·simp only [Act.put, sA, sZ, sS, i64_w, i32_w]
    rfl
   refine pure_ (i := 1) (N := some 19) (v := ?_) (a' := ?_) #[t_,t_,f_,f_,f_,f_,f_,f_,f_,f_,f_] rfl rfl (any_of HT_.out (by kernel_rfl)) (fun _ _ _ h => h) (Or.inl ⟨by rfl, ?_⟩) ?_ ?_
   rotate_left
   ·intro w'
    go_simp
    with_reducible rfl
   rotate_left
   ·simp only [Act.put, sA, sZ, sS, i64_w, i32_w]
    rfl
   refine take_ (i := 2) (N := some 20) (v := ?_) (a' := ?_) #[t_,t_,t_,f_,f_,f_,f_,f_,f_,f_,f_] rfl rfl (take_ofW HT_.out HW_.out (by kernel_rfl)) (fun _ _ _ h => h) (Or.inl ⟨by rfl, ?_⟩) hHeld ?_ ?_
   rotate_left
   ·rintro w' ⟨s0, s1⟩
    go_simp
    with_reducible rfl
   rotate_left
   ·simp only [Act.put, sA, sZ, sS, i64_w, i32_w]
    rfl
   refine pure_ (i := 4) (N := some 22) (v := ?_) (a' := ?_) #[t_,t_,t_,f_,t_,f_,f_,f_,f_,f_,f_] rfl rfl (any_of HT_.out (by kernel_rfl)) (fun _ _ _ h => h) (Or.inl ⟨by rfl, ?_⟩) ?_ ?_
   rotate_left
   ·intro w'
    go_simp
    with_reducible rfl
   rotate_left
   ·simp only [Act.put, sA, sZ, sS, i64_w, i32_w]
    rfl
   refine take_ (i := 5) (N := some 23) (v := ?_) (a' := ?_) #[t_,t_,t_,f_,t_,t_,f_,f_,f_,f_,f_] rfl rfl (take_ofW HT_.out HW_.out (by kernel_rfl)) (fun _ _ _ h => h) (Or.inl ⟨by rfl, ?_⟩) hHeld ?_ ?_
   rotate_left
   ·rintro w' ⟨s0, s1⟩
    go_simp
    with_reducible rfl
   rotate_left
   ·simp only [Act.put, sA, sZ, sS, i64_w, i32_w]
    rfl
   refine one_ (i := 3) (N := some 21) #[t_,t_,t_,t_,t_,t_,f_,f_,f_,f_,f_] rfl rfl (one_of HT_.out (by kernel_rfl)) (by decide) (fun K hK => ?_)
   refine lit_step (by rfl) (N := 21) ?hd (cs := #[]) (t := 5) (m := 0) ?hr ?_; (case hd => rfl); (case hr => first | (go_simp; done) | (go_simp; rfl))
   intro gl hgl w5 hl5 hb5
   have HLL := Aside0.mk hl5
   have BX5 := blk_below BX4.out hb5
   have HX5 := Aside0.mk (Kd.C_below HX4.out hb5)
   have GB := Aside0.mk hb5
   have GL := Aside0.mk (show w4.heap.size ≤ gl by rw [hgl]; exact Nat.le_refl _)
   clear hl5 hb5 hgl
   refine hK.out _ _ ⟨(blk_cell BX5 0).trans rfl, (blk_cell BX5 1).trans rfl⟩ (fun hHeld => ?_)
   clear hK K
   refine norm_ (a' := ?_) ?_ ?_
   rotate_left
   ·show Act.put _ (some 21) _ = _
    simp only [Act.put, sA, sZ, sS, i64_w, i32_w]
    rfl
   refine one_ (i := 6) (N := some 24) #[t_,t_,t_,t_,t_,t_,t_,f_,f_,f_,f_] rfl rfl (one_of HT_.out (by kernel_rfl)) (by decide) (fun K hK => ?_)
   refine bytes_copy_step (w0 := w4) (by rfl) (.tmp 21) (.tmp 23) rfl gl A1 c1 x.f1 rfl rfl HLL.out GL.out GB.out HX5.out (by have := HXS.out; omega) ?_
   intro v6 w6 hr6 hb6
   have HV6 := Aside0.mk hr6
   have BX6 := Aside0.mk (blk_below BX4.out hb6)
   have HS6 := Aside0.mk (Kd.S_below (Kd.S_bound HS4.out) hb6)
   have HN6 := Aside0.mk (Kd.N_below HN4.out hb6)
   have HB6 := Aside0.mk (below_step HB4.out hb6)
   have KS := Aside0.mk hb6.size
   clear hr6 hb6 BX5 HX5 GB GL HLL
   obtain ⟨A6, c6, hv6, hc6, hC6⟩ := Kd.R_reads HV6.out
   subst hv6
   refine hK.out _ _ ⟨(blk_cell BX6.out 0).trans rfl, (blk_cell BX6.out 1).trans rfl⟩ (fun hHeld => ?_)
   clear hK K
   refine norm_ (a' := ?_) ?_ ?_
   rotate_left
   ·show Act.put _ (some 24) _ = _
    simp only [Act.put, sA, sZ, sS, i64_w, i32_w]
    rfl
   refine pure_ (i := 7) (N := some 25) (v := ?_) (a' := ?_) #[t_,t_,t_,t_,t_,t_,t_,t_,f_,f_,f_] rfl rfl (any_of HT_.out (by kernel_rfl)) (fun _ _ _ h => h) (Or.inl ⟨by rfl, ?_⟩) ?_ ?_
   rotate_left
   ·intro w'
    go_simp
    with_reducible rfl
   rotate_left
   ·simp only [Act.put, sA, sZ, sS, i64_w, i32_w]
    rfl
   refine one_ (i := 8) (N := some 26) #[t_,t_,t_,t_,t_,t_,t_,t_,t_,f_,f_] rfl rfl (one_of HT_.out (by kernel_rfl)) (by decide) (fun K hK => ?_)
   refine event_step (by rfl) (v := .slice (some ⟨w6.heap.size, 0, none⟩) 1 1) (w1 := w6.alloc (.cells [.int .i64 x.f0, .slice A6 x.f1.length c6].toArray 68)) ?hr ?_; (case hr => first | (go_simp; done) | (go_simp; rfl))
   refine hK.out _ _ ⟨(blk_cell (blk_alloc BX6.out _) 0).trans rfl, (blk_cell (blk_alloc BX6.out _) 1).trans rfl⟩ (fun hHeld => ?_)
   clear hK K
   refine norm_ (a' := ?_) ?_ ?_
   rotate_left
   ·show Act.put _ (some 26) _ = _
    simp only [Act.put, sA, sZ, sS, i64_w, i32_w]
    rfl
   refine one_ (i := 9) (N := some 27) #[t_,t_,t_,t_,t_,t_,t_,t_,t_,t_,f_] rfl rfl (one_of HT_.out (by kernel_rfl)) (by decide) (fun K hK => ?_)
   refine Kd.S_append_step k68 (w0 := w) w.heap.size (by rfl) (.tmp 18) (.tmp 26) 66 68 (.agg #[(.int .i64 0), (.slice none 0 0)]) 32 rfl Try.underlying66 PL.info68 rfl (by decide) (by omega) (.slice A3 pre.length c3) pre x [.int .i64 x.f0, .slice A6 x.f1.length c6] (fun _ => True) (fun k => w4.heap.size ≤ k) rfl rfl (k68_mkM w6 w.heap.size _ x (Kd.R_lower HV6.out HB4.out.size)) (fun k hk => ⟨trivial, fun e => by have := Kd.S_lt HS4.out k e.symm; omega⟩) (fun _ _ => trivial) (Kd.S_mono HS6.out (fun k hk => ⟨trivial, fun h => by have := hk.2.2.1; omega⟩)) HB6.out HB6.out.size (by have := HPL.out; omega) ?_
   intro v7 w7 hs7 hb7 hg7 hat7
   have hrow : ∀ k, k < w.heap.size → some k ≠ (Value.slice A3 pre.length c3).ownBlock := fun k hk e => by
    have h8 := (Kd.S_bound HS4.out) 
    have h9 := (Kd.S_R h8).1 k e.symm
    have := h9.2.1
    omega
   have hk7 : Kept w6 w7 (fun k => some k = (Value.slice A3 pre.length c3).ownBlock) := ⟨by have := hg7.size; exact this, fun k hk hn => hg7.block k hk hn⟩
   have HS7 := Aside0.mk (show Kd.S k68 68 w7 w.heap.size (fun _ => True) v7 (v.l.take (i + 1)) by rw [HSN.out]; exact hs7)
   have HN7 := Aside0.mk (Kd.N_kept HN6.out hk7 (fun k hk e => hrow k hk e))
   have HB7 := Aside0.mk hb7
   have BX7 := blk_kept BX6.out hk7 (fun e => by have h8 := Kd.S_lt HS.out gx e.symm; have h9 := GX.out; omega)
   clear hs7 hb7 hg7 hat7 hk7 hrow
   refine hK.out _ _ ⟨(blk_cell BX7 0).trans rfl, (blk_cell BX7 1).trans rfl⟩ (fun hHeld => ?_)
   clear hK K
   refine norm_ (a' := ?_) ?_ ?_
   rotate_left
   ·show Act.put _ (some 27) _ = _
    simp only [Act.put, sA, sZ, sS, i64_w, i32_w]
    rfl
   refine pure_ (i := 10) (N := some 3) (v := ?_) (a' := ?_) #[t_,t_,t_,t_,t_,t_,t_,t_,t_,t_,t_] rfl rfl (any_of HT_.out (by kernel_rfl)) (fun _ _ _ h => h) (Or.inl ⟨by rfl, ?_⟩) ?_ ?_
   rotate_left
   ·intro w'
    go_simp
    with_reducible rfl
   rotate_left
   ·simp only [Act.put, sA, sZ, sS, i64_w, i32_w]
    rfl
   refine done_ (done_of HT_.out (by kernel_rfl)) ?_
   go_wp2_with fail
   go_roundg k1
   case measure => omega
   case rel => exact ⟨i + 1, (by have h_ : wrap64 ((i : Int) + 1) = ((i + 1 : Nat) : Int) := (by have := HL.out; have := hin2.out; unfold wrap64; omega); rw [h_]), ⟨by have := HK.out; omega⟩, HS7, HN7, HB7⟩
end Go.Proofs.Ytccjdefhieilpaa.VT
namespace Go.Proofs.Ytccjdefhieilpaa.Spec
open Go.RowKit Go.Proofs.Ytccjdefhieilpaa.PB Go.Proofs.Ytccjdefhieilpaa.Pure Go.Proofs.YtccjdefhieilpaaW.PrintWords
theorem next_right (f : List Int) (hb : Bytes f) (h : (nextL f).2.2 = 0) : rightE (nextL f).1 ∧ Bytes (nextL f).1.2 ∧ (nextL f).2.1 = (frameL (nextL f).1).length := by
 rcases size_cases f hb with ⟨e, he, hs⟩ | ⟨n, hn, hlen, h0, h1, hseg, ht, hs⟩
 ·rw [nextL_err hs (by rcases he with rfl | rfl <;> decide)] at h
  exact absurd h (by rcases he with rfl | rfl <;> decide)
 ·by_cases hl : f.length < 2 + (putN n).length + n + 4
  ·rw [nextL_short hs hl] at h
   exact absurd h (by decide)
  ·by_cases ho : (openL (f.take (2 + (putN n).length + n + 4))).2 = 0
   ·have hx := nextL_good hs hl ho
    have hd : ((f.drop (2 + (putN n).length)).take n).length = n := by rw [List.length_take, List.length_drop]; omega
    have hk := hb.at 1
    have hk' : 0 ≤ rd f 1 ∧ rd f 1 < 256 := hk
    rw [hx]
    refine ⟨⟨by show 1 ≤ rd f 1; omega, by show rd f 1 ≤ 255; omega, by show ((f.drop (2 + (putN n).length)).take n).length ≤ 1048576; omega⟩, (hb.drop _).take _, ?_⟩
    rw [frameL_length]
    show 2 + (putN n).length + n + 4 = 2 + (putN ((f.drop (2 + (putN n).length)).take n).length).length + ((f.drop (2 + (putN n).length)).take n).length + 4
    rw [hd]
   ·rw [nextL_sum hs hl ho] at h
    exact absurd h (by decide)
theorem readL_right : ∀ (k : Nat) (f : List Int), Bytes f → (∀ e ∈ (readL k f).1, rightE e ∧ Bytes e.2) ∧ (readL k f).2 = (framesL (readL k f).1).length
 | 0, f, _ => ⟨(fun e he => by cases he), rfl⟩
 | k + 1, f, hb => by
  by_cases hz : (nextL f).2.2 = 0
  ·obtain ⟨h1, h2, h3⟩ := next_right f hb hz
   obtain ⟨i1, i2⟩ := readL_right k (f.drop (nextL f).2.1) (hb.drop _)
   rw [readL_ok k f hz]
   refine ⟨fun e he => ?_, ?_⟩
   ·rcases List.mem_cons.1 he with rfl | he
    ·exact ⟨h1, h2⟩
    ·exact i1 e he
   ·show (nextL f).2.1 + (readL k (f.drop (nextL f).2.1)).2 = (framesL ((nextL f).1 :: (readL k (f.drop (nextL f).2.1)).1)).length
    rw [framesL_cons, List.length_append, i2, h3]
  ·rw [readL_err _ f hz]
   exact ⟨(fun e he => by cases he), rfl⟩
theorem readL_short (k : Nat) (f : List Int) (hb : Bytes f) : (readL k f).2 ≤ f.length := by
 induction k generalizing f with
 | zero => exact Nat.zero_le _
 | succ k ih =>
  by_cases hz : (nextL f).2.2 = 0
  ·have hm := next_moves f hb hz
   have := ih (f.drop (nextL f).2.1) (hb.drop _)
   rw [List.length_drop] at this
   rw [readL_ok k f hz]
   show (nextL f).2.1 + (readL k (f.drop (nextL f).2.1)).2 ≤ f.length
   omega
  ·rw [readL_err _ f hz]
   exact Nat.zero_le _
end Go.Proofs.Ytccjdefhieilpaa.Spec
namespace Go.Proofs.Ytccjdefhieilpaa.Pure
open Go.RowKit Go.Proofs.Ytccjdefhieilpaa.PB Go.Proofs.Ytccjdefhieilpaa.PL Go.Proofs.YtccjdefhieilpaaW.PrintWords
theorem readS_rights (f : List Int) (hb : Bytes f) : Rights (readS f) := fun x hx => by
 obtain ⟨e, he, rfl⟩ := List.mem_map.1 hx
 exact ((Spec.readL_right _ f hb).1 e he).1
theorem readN_frames (f : List Int) (hb : Bytes f) : readN f = (framesS (readS f)).length := by
 unfold readN readS framesS
 rw [(Spec.readL_right _ f hb).2, List.map_map]
 congr 2
 exact (List.map_id _).symm
theorem readN_le (f : List Int) (hb : Bytes f) : readN f ≤ f.length := Spec.readL_short _ f hb
end Go.Proofs.Ytccjdefhieilpaa.Pure
namespace Go.Proofs.Ytccjdefhieilpaa.VT
open Go.RowKit Go.Proofs.YtccjdefhieilpaaW.PrintWords Go.Proofs.YtccjdefhieilpaaW.PrintLast Go.Proofs.YtccjdefhieilpaaW.PrintMore Go.Proofs.Ytccjdefhieilpaa.PB Go.Proofs.Ytccjdefhieilpaa.PL Go.Proofs.Ytccjdefhieilpaa.PG Go.Proofs.Ytccjdefhieilpaa.Pure
attribute [local go_sem] max2_int min2_int max_two min_two max_three min_three max_four min_four   -- for this text's walks alone
set_option linter.unusedVariables false
set_option linter.unusedSimpArgs false
def open9.T : Bool × List (List Nat × List Nat) := (true, [([], []), ([0], [0]), ([1], [1]), ([], []), ([], []), ([4], [4]), ([2, 3, 5, 5], [2, 3, 5])])
def open9.B : List Nat := [0, 1, 3, 0, 0, 16, 63]
theorem open9.tab : rtab .any (opsOf Try.f61 9) = open9.T := by kernel_rfl
theorem open9.bits : waitsOk open9.T.2 open9.B = true := by kernel_rfl
theorem framesS_seven : ∀ l : List S68, 7 * l.length ≤ (framesS l).length
 | [] => Nat.zero_le _
 | x :: l => by
  have h1 := framesS_seven l
  have h2 := Spec.frameL_pos (p68 x)
  rw [framesS_cons, List.length_append, List.length_cons]
  omega
theorem framesS_upto (l : List S68) (i : Nat) : (framesS (l.take i)).length ≤ (framesS l).length := by
 have e : framesS l = framesS (l.take i) ++ framesS (l.drop i) := by rw [← framesS_append, List.take_append_drop]
 rw [e, List.length_append]
 exact Nat.le_add_right _ _
theorem readD_all {d : D} (hd : d.dead = false) (hs : d.b.length ≤ 1048576) (hf : ∀ x ∈ d.ws, 0 ≤ x.f0 ∧ x.f0.toNat + x.f1.length ≤ d.b.length) : readD d 0 (d.b.length : Int) = (layAll d.b d.ws, 0) := by
 have hw : wrap64 ((d.b.length : Int) - 0) = (d.b.length : Int) := by unfold wrap64; omega
 have hp : powerD d 0 (d.b.length : Int) = 0 := by
  unfold powerD
  rw [hw, if_neg (by rw [hd]; exact Bool.false_ne_true), if_neg (by omega), if_neg (by omega), if_neg (by omega), if_neg (by omega)]
 have hl := layAll_length d.ws d.b hf
 unfold readD
 rw [if_pos hp, show (0 + (d.b.length : Int)).toNat = d.b.length by omega, List.take_of_length_le (by omega)]
 rfl
set_option maxHeartbeats 16000000 in
set_option maxRecDepth 100000 in
theorem open_calls {Sd : Nat → Prop} {w : World} {gd : Nat} {d : D} (h : Dev Sd w gd d) (hd : d.dead = false) (hby : Bytes (layAll d.b d.ws)) :
  Calls Try.prog 61 #[.pointer (some ⟨gd, 0, none⟩)] w fun e w' => ∃ g S, e = .returned (.tuple #[.pointer (some ⟨g, 0, none⟩), .int .i64 0]) ∧ Both Sd S w' gd g d ⟨readS (layAll d.b d.ws), (readN (layAll d.b d.ws) : Int), false⟩ ∧ (∀ k, S k → w.heap.size ≤ k) ∧ Below w.heap.size w w' := by
 have HD0 := Aside0.mk h
 have HRD := Aside0.mk (readD_all hd h.small h.fits)
 have hll := layAll_length d.ws d.b h.fits
 have hlsm := h.small
 have HBY := Aside0.mk hby
 have hu155 := Try.underlying155
 have hu68 := Try.underlying68
 clear h hd hby
 go_enter Try.func61, Try.ntmps61
 go_wp2_with fail
 refine (size_calls HD0.out).mono ?_
 rintro e w1 ⟨rfl, hb⟩
 have HD1 := Aside0.mk (HD0.out.below hb)
 have HB1 := Aside0.mk hb
 clear hb
 go_wp2_with fail
 refine (read_calls HD1.out 0 (d.b.length : Int)).mono ?_
 rintro e w2 ⟨vb, rfl, hr2, hb2⟩
 rw [HRD.out] at hr2 ⊢
 obtain ⟨out, hout⟩ : ∃ out, out = layAll d.b d.ws := ⟨_, rfl⟩
 rw [← hout] at hr2 hll HBY
 have HOUT := Aside0.mk hout
 clear hout
 have HR2 := Aside0.mk hr2
 have HD2 := Aside0.mk (HD1.out.below hb2)
 have HB2 := Aside0.mk (below_step HB1.out hb2)
 clear hr2 hb2 HRD
 obtain ⟨Ab, cb, hvb, hcb, hCb⟩ := Kd.R_reads HR2.out
 subst hvb
 have HC2 := Aside0.mk hCb
 have HCB := Aside0.mk hcb
 have hon : out.length ≤ 1000000000 := by omega
 obtain ⟨kr, hkr⟩ : ∃ kr, 11 * out.length + 40 ≤ kr := ⟨_, Nat.le_refl _⟩
 have HRE := Aside0.mk (lread_eq kr out HBY.out hon hkr)
 have HRT := Aside0.mk (readS_rights out HBY.out)
 have HRN := Aside0.mk (readN_frames out HBY.out)
 have HNL := Aside0.mk (show readN out ≤ 1048576 by have := readN_le out HBY.out; omega)
 obtain ⟨l, hlq⟩ : ∃ l, l = readS out := ⟨_, rfl⟩
 obtain ⟨n, hnq⟩ : ∃ n, n = readN out := ⟨_, rfl⟩
 rw [← hlq, ← hnq] at HRE HRN
 rw [← hlq] at HRT
 rw [← hnq] at HNL
 have HLQ := Aside0.mk hlq
 have HNQ := Aside0.mk hnq
 clear hlq hnq
 clear hCb hcb hkr hon hll hlsm
 go_wp2_with (first | ((with_reducible refine gate_dst (N := 23) rfl ?_); refine box_event ?hg (N := 23) ?hd (cs := #[.slice none 0 0, .int .i64 0, .pointer (some ⟨gd, 0, none⟩), .bool false]) (t := 155) ?hr ?_; (case hd => rfl); (case hg => rfl); (case hr => first | (go_simp; done) | (go_simp; rfl)); intro g hgx w3 hbox hb; have BX := Aside0.mk hbox; have HB3 := Aside0.mk (below_step HB2.out hb); have HD3 := Aside0.mk (HD2.out.below hb); have HC3 := Aside0.mk (Kd.C_below HC2.out hb); have GX := Aside0.mk (show w.heap.size ≤ g by rw [hgx]; exact HB2.out.size); clear hbox hb hgx) | ((with_reducible refine gate_callee (f := 103) rfl ?_); refine goesL_ (some 26) rfl rfl Try.func103 (by kernel_rfl) rfl #[.slice Ab out.length cb] rfl (by (try simp only [List.map_toArray, List.map_cons, List.map_nil]); first | done | rfl) ?_; refine (log_Read.calls kr Ab cb out l (n : Int) _ HC3.out HCB.out HRE.out).mono ?_; rintro e w4 ⟨vl, rfl, hs4, hb4⟩; refine ⟨_, rfl, ?_⟩; have HS4 := Aside0.mk hs4; have BX4 := Aside0.mk (blk_below BX.out hb4); have HB4 := Aside0.mk (below_step HB3.out hb4); have HD4 := Aside0.mk (HD3.out.below hb4); clear hs4 hb4; obtain ⟨Al, cl, hvl⟩ := Kd.S_slice HS4.out; subst hvl))
 have hl7 := framesS_seven l
 have HLN := Aside0.mk (show l.length ≤ 1000000 by have := HRN.out; have := HNL.out; omega)
 have HF4 := Aside0.mk (Kd.F_mono (Kd.S_F (Kd.S_bound HS4.out)) (ok' := fun k => w3.heap.size ≤ k ∧ k < w4.heap.size) (fun k hk => ⟨hk.2.1, hk.2.2.1⟩))
 have hcl : l.length ≤ cl := (Kd.S_reads' HS4.out).2.1
 have G3 := Aside0.mk (blk_lt BX.out)
 have G4 := Aside0.mk HB4.out.size
 have HV4 := Aside0.mk (show Vlt (fun k => k = g) w4 g gd ⟨l.take 0, ((framesS (l.take 0)).length : Int), false⟩ from ⟨rfl, fun k hk => by have e : k = g := hk; rw [e]; exact blk_lt BX4.out, ⟨.slice none 0 0, BX4.out, Kd.N_nil _ _ _ _ _⟩⟩)
 clear hl7 hcl BX BX4 HS4
 go_loopg [31] l.length (fun kq v31 w' => ∃ (i : Nat) (S : Nat → Prop), v31 = .int .i64 (i : Int) ∧ Aside0 (i + kq = l.length) ∧ Aside0 (Vlt S w' g gd ⟨l.take i, ((framesS (l.take i)).length : Int), false⟩) ∧ Aside0 (∀ k, S k → k = g ∨ w4.heap.size ≤ k) ∧ Aside0 (Kd.F k68 w' (fun k => w3.heap.size ≤ k ∧ k < w4.heap.size) Al l.length l) ∧ Aside0 (w4.heap.size ≤ w'.heap.size) ∧ Aside0 (Below w.heap.size w w'))
 case atStart => exact ⟨0, fun k => k = g, rfl, ⟨Nat.zero_add _⟩, HV4, ⟨fun k hk => .inl hk⟩, HF4, ⟨Nat.le_refl _⟩, HB4⟩
 case round =>
  clear HV4 HF4
  obtain ⟨i, S, rfl, HK, HV, HSS, HF, SZ, HB⟩ := hrel
  cases gk with
  | zero =>
   have hin : i = l.length := by have := HK.out; omega
   have q1 : (i < l.length) = False := eq_false (by omega)
   go_wp2_with fail
   go_ret2
   have hv := HV.out
   rw [hin, List.take_length, ← HRN.out] at hv
   refine ⟨g, S, rfl, ⟨HD0.out.below HB.out, by rw [← HOUT.out, ← HLQ.out, ← HNQ.out]; exact hv, fun k hk hs => ?_⟩, fun k hk => ?_, HB.out⟩
   ·have h1 := HD0.out.lt k hs
    have h2 := GX.out
    have h3 := HB4.out.size
    rcases HSS.out k hk with e | h4
    ·omega
    ·omega
   ·have h2 := GX.out
    have h3 := HB4.out.size
    rcases HSS.out k hk with e | h4
    ·omega
    ·omega
  | succ k1 =>
   have hin : i < l.length := by have := HK.out; omega
   obtain ⟨ad, cs, hA, _, hfk, hcc, _⟩ := Kd.F_get HF.out z68 (i : Int) (by omega) (by omega)
   subst hA
   obtain ⟨A1, c1, hcs, hl1, hF1⟩ := k68_openF hfk
   subst hcs
   have hx0 : wr.cell? (ad.add (i * 2)) = some (.int .i64 (l.getD (i : Int).toNat z68).f0) := hcc 0 _ rfl
   have hx1 : wr.cell? ⟨(ad.add (i * 2)).block, (ad.add (i * 2)).off + 1, none⟩ = some (.slice A1 (l.getD (i : Int).toNat z68).f1.length c1) := by
    rw [← add_field _ _ 1 (by omega)]
    exact hcc 1 _ rfl
   have hri : Spec.rightE ((l.getD (i : Int).toNat z68).f0, (l.getD (i : Int).toNat z68).f1) := HRT.out _ (T68_mem l i hin)
   have hsnoc : l.take (i + 1) = l.take i ++ [l.getD (i : Int).toNat z68] := T68_take l i hin
   have p0 : (0 : Int) ≤ (i : Int) := by omega
   replace p0 := eq_true p0
   have q1 : (i < l.length) = True := eq_true hin
   have hmx := framesS_upto l (i + 1)
   rw [hsnoc, framesS_append, List.length_append, show framesS [l.getD (i : Int).toNat z68] = Spec.frameL (p68 (l.getD (i : Int).toNat z68)) ++ [] from framesS_cons _ _, List.append_nil] at hmx
   clear hcc hfk
   generalize l.getD (i : Int).toNat z68 = x at *
   have HX := Aside0.mk hF1
   have HSN := Aside0.mk hsnoc
   have HRI := Aside0.mk hri
   have HMX := Aside0.mk hmx
   have hin2 := Aside0.mk hin
   have HL1 := Aside0.mk hl1
   clear hF1 hsnoc hri hmx hin hl1
   go_wp2_with (first | ((with_reducible refine gate_dst (N := 10) rfl ?_); refine box_event ?hg (N := 10) ?hd (cs := #[.int .i64 0, .slice none 0 0]) (t := 68) ?hr ?_; (case hd => rfl); (case hg => rfl); (case hr => first | (go_simp; done) | (go_simp; rfl)); intro gx hgx w2 hbox hb; have BX := Aside0.mk hbox; have HB2 := Aside0.mk hb; have GXX := Aside0.mk hgx; clear hbox hb hgx; have hy0 : w2.cell? ⟨gx, 0, none⟩ = some (.int .i64 0) := (blk_cell BX.out 0).trans rfl; have hy1 : w2.cell? ⟨gx, 1, none⟩ = some (.slice none 0 0) := (blk_cell BX.out 1).trans rfl; have hz0 := blk_frozen BX.out 0; have hz1 := blk_frozen BX.out 1) | ((with_reducible refine gate_store (t := 68) (p := 10) rfl ?_); refine store_event (t := 68) (p := 10) (v := ?vo) (w1 := ((w2.setCell ⟨gx, 0, none⟩ (.int .i64 x.f0)).setCell ⟨gx, 1, none⟩ (.slice A1 x.f1.length c1))) ?hg ?ho ?hn ?hr ?_; (case ho => rfl); (case hg => rfl); (case hn => rfl); (case hr => first | (go_simp; done) | (go_simp; rfl)); intro wa hwa; have hba : Below wr.heap.size wr wa := (by rw [hwa]; exact (HB2.out.setCell (by rw [GXX.out]; exact Nat.le_refl _) _).setCell (by rw [GXX.out]; exact Nat.le_refl _) _); have BXA : wa.heap[gx]? = some (.cells #[.int .i64 x.f0, .slice A1 x.f1.length c1] 68 (0, 0)) := (by rw [hwa]; exact blk_put (blk_put BX.out 0 _ rfl) 1 _ rfl); have HBA := Aside0.mk (below_step HB.out hba); have SZA := Aside0.mk (Nat.le_trans SZ.out hba.size); have HVA := Aside0.mk (HV.out.below hba); have HFA := Aside0.mk (Kd.F_below HF.out hba); have HXA := Aside0.mk (Kd.F_below HX.out hba); have GA := Aside0.mk (show S gx → False from fun hs => by have h1 := HV.out.lt gx hs; have h2 := GXX.out; omega); clear hwa hba hy0 hy1 hz0 hz1 BX HB2; have BXA := Aside0.mk BXA))
   refine start_ (n := 7) (S := fun w' => w'.cell? ⟨gx, 0, none⟩ = some (.int .i64 x.f0) ∧ w'.cell? ⟨gx, 1, none⟩ = some (.slice A1 x.f1.length c1)) (ds := []) #[f_,f_,f_,f_,f_,f_,f_] (by kernel_rfl) rfl rfl ⟨(blk_cell BXA.out 0).trans rfl, (blk_cell BXA.out 1).trans rfl⟩ (fun hHeld => ?_); refine with_tabW open9.tab open9.bits (fun HT_ HW_ => ?_)
   have HBB := Aside0.mk (below_drew1 HBA.out); have SZB := Aside0.mk (show w4.heap.size ≤ wa.drew.heap.size from SZA.out); have HVB := Aside0.mk (HVA.out.below (below_drew (Below.refl _ _))); have HFB := Aside0.mk (Kd.F_drew HFA.out); have HXB := Aside0.mk (Kd.F_drew HXA.out); have BXB := Aside0.mk (blk_drew BXA.out); clear HBA HVA HFA HXA BXA; generalize wa.drew = wb at HBB SZB HVB HFB HXB BXB hHeld ⊢
   refine pure_ (i := 0) (N := some 35) (v := ?_) (a' := ?_) #[t_,f_,f_,f_,f_,f_,f_] rfl rfl (any_of HT_.out (by kernel_rfl)) (fun _ _ _ h => h) (Or.inl ⟨by rfl, ?_⟩) ?_ ?_
   rotate_left
   ·intro w'
    go_simp
    with_reducible rfl
   rotate_left
   ·simp only [Act.put, sA, sZ, sS, i64_w, i32_w]
    rfl
   refine pure_ (i := 1) (N := some 36) (v := ?_) (a' := ?_) #[t_,t_,f_,f_,f_,f_,f_] rfl rfl (any_of HT_.out (by kernel_rfl)) (fun _ _ _ h => h) (Or.inl ⟨by rfl, ?_⟩) ?_ ?_
   rotate_left
   ·intro w'
    go_simp
    with_reducible rfl
   rotate_left
   ·simp only [Act.put, sA, sZ, sS, i64_w, i32_w]
    rfl
   refine pure_ (i := 2) (N := some 37) (v := ?_) (a' := ?_) #[t_,t_,t_,f_,f_,f_,f_] rfl rfl (any_of HT_.out (by kernel_rfl)) (fun _ _ _ h => h) (Or.inl ⟨by rfl, ?_⟩) ?_ ?_
   rotate_left
   ·intro w'
    go_simp
    with_reducible rfl
   rotate_left
   ·simp only [Act.put, sA, sZ, sS, i64_w, i32_w]
    rfl
   refine take_ (i := 3) (N := some 38) (v := ?_) (a' := ?_) #[t_,t_,t_,t_,f_,f_,f_] rfl rfl (take_ofW HT_.out HW_.out (by kernel_rfl)) (fun _ _ _ h => h) (Or.inl ⟨by rfl, ?_⟩) hHeld ?_ ?_
   rotate_left
   ·rintro w' ⟨s0, s1⟩
    go_simp
    with_reducible rfl
   rotate_left
   ·simp only [Act.put, sA, sZ, sS, i64_w, i32_w]
    rfl
   refine take_ (i := 4) (N := some 39) (v := ?_) (a' := ?_) #[t_,t_,t_,t_,t_,f_,f_] rfl rfl (take_ofW HT_.out HW_.out (by kernel_rfl)) (fun _ _ _ h => h) (Or.inl ⟨by rfl, ?_⟩) hHeld ?_ ?_
   rotate_left
   ·rintro w' ⟨s0, s1⟩
    go_simp
    with_reducible rfl
   rotate_left
   ·simp only [Act.put, sA, sZ, sS, i64_w, i32_w]
    rfl
   refine one_ (i := 5) (N := some 40) #[t_,t_,t_,t_,t_,t_,f_] rfl rfl (one_of HT_.out (by kernel_rfl)) (by decide) (fun K hK => ?_)
   refine goes_ Try.func104 (by kernel_rfl) rfl #[.agg #[.int .i64 x.f0, .slice A1 x.f1.length c1]] (by rfl) rfl rfl (by (try simp only [List.map_toArray, List.map_cons, List.map_nil]); first | done | rfl) ?_
   have hsz : log_Size.f 10 x.f0 x.f1 = some ((Spec.frameL (p68 x)).length : Int) := by
    rw [psize_eq 10 _ _ (Nat.le_refl _), if_pos HRI.out]
    rfl
   refine (log_Size.calls 10 x.f0 A1 c1 x.f1 _ _ (Kd.F_now HXB.out) HL1.out hsz).mono ?_
   rintro e wc ⟨rfl, hbc⟩
   refine ⟨_, rfl, ?_⟩
   have HBC := Aside0.mk (below_step HBB.out hbc)
   have SZC := Aside0.mk (Nat.le_trans SZB.out hbc.size)
   have HVC := Aside0.mk (HVB.out.below hbc)
   have HFC := Aside0.mk (Kd.F_below HFB.out hbc)
   have HXC := Aside0.mk (Kd.F_below HXB.out hbc)
   have BXC := Aside0.mk (blk_below BXB.out hbc)
   clear hbc hsz HBB HVB HFB HXB BXB
   refine hK.out _ _ ⟨(blk_cell BXC.out 0).trans rfl, (blk_cell BXC.out 1).trans rfl⟩ (fun hHeld => ?_)
   clear hK K
   refine norm_ (a' := ?_) ?_ ?_
   rotate_left
   ·show Act.put _ (some 40) _ = _
    simp only [Act.put, sA, sZ, sS, i64_w, i32_w]
    rfl
   refine one_ (i := 6) (N := some 41) #[t_,t_,t_,t_,t_,t_,t_] rfl rfl (one_of HT_.out (by kernel_rfl)) (by decide) (fun K hK => ?_)
   refine goes_ Try.func122 (by kernel_rfl) rfl #[.pointer (some ⟨g, 0, none⟩), .agg #[.int .i64 x.f0, .slice A1 x.f1.length c1], .int .i64 ((Spec.frameL (p68 x)).length : Int)] (by rfl) rfl rfl (by (try simp only [List.map_toArray, List.map_cons, List.map_nil]); first | done | rfl) ?_
   have hap : ∀ k, (w3.heap.size ≤ k ∧ k < w4.heap.size) → ¬ S k := fun k hk hs => by
    have h1 := G3.out
    rcases HSS.out k hs with e | h4
    ·omega
    ·omega
   refine (add_calls HVC.out x.f0 A1 c1 x.f1 ((Spec.frameL (p68 x)).length : Int) (Kd.F_mono HXC.out hap) HL1.out (by have h := HRI.out.2.2; have h' : x.f1.length ≤ 1048576 := h; omega) (by have := HLN.out; have := hin2.out; show (l.take i).length ≤ 1000000; rw [List.length_take]; omega)).mono ?_
   rintro e wd ⟨rfl, hwd, S', hvd, hsd⟩
   refine ⟨_, rfl, ?_⟩
   have hwr : wrap64 (((framesS (l.take i)).length : Int) + ((Spec.frameL (p68 x)).length : Int)) = ((framesS (l.take (i + 1))).length : Int) := by
    have h1 := HMX.out
    have h2 := HRN.out
    have h3 := HNL.out
    rw [HSN.out, framesS_append, List.length_append, show framesS [x] = Spec.frameL (p68 x) ++ [] from framesS_cons _ _, List.append_nil]
    unfold wrap64
    omega
   have HVD := Aside0.mk (show Vlt S' wd g gd ⟨l.take (i + 1), ((framesS (l.take (i + 1))).length : Int), false⟩ by rw [← hwr, HSN.out]; exact hvd)
   have HFD := Aside0.mk (Kd.F_kept HFC.out hwd.kept hap)
   have BXD := blk_kept BXC.out hwd.kept (fun hs => GA.out hs)
   have HBD := Aside0.mk (show Below w.heap.size w wd from HBC.out.trans (hwd.to_below HBC.out.size (fun k hk => by
    have h1 := GX.out
    have h2 := G4.out
    rcases HSS.out k hk with e | h4
    ·omega
    ·omega)))
   have HSD := Aside0.mk (show ∀ k, S' k → k = g ∨ w4.heap.size ≤ k from fun k hk => by
    rcases hsd k hk with h1 | h1
    ·exact HSS.out k h1
    ·exact .inr (Nat.le_trans SZC.out h1))
   have SZD := Aside0.mk (Nat.le_trans SZC.out hwd.kept.1)
   clear hwd hvd hsd hap hwr
   refine hK.out _ _ ⟨(blk_cell BXD 0).trans rfl, (blk_cell BXD 1).trans rfl⟩ (fun hHeld => ?_)
   clear hK K
   refine norm_ (a' := ?_) ?_ ?_
   rotate_left
   ·show Act.put _ (some 41) _ = _
    simp only [Act.put, sA, sZ, sS, i64_w, i32_w]
    rfl
   refine done_ (done_of HT_.out (by kernel_rfl)) ?_
   go_wp2_with fail
   go_roundg k1
   case measure => omega
   case rel => exact ⟨i + 1, S', (by have h_ : wrap64 ((i : Int) + 1) = ((i + 1 : Nat) : Int) := (by have := HLN.out; have := hin2.out; unfold wrap64; omega); rw [h_]), ⟨by have := HK.out; omega⟩, HVD, HSD, HFD, SZD, HBD⟩
end Go.Proofs.Ytccjdefhieilpaa.VT
namespace Go.Proofs.Ytccjdefhieilpaa.VT
open Go.RowKit Go.Proofs.YtccjdefhieilpaaW.PrintWords Go.Proofs.YtccjdefhieilpaaW.PrintLast Go.Proofs.YtccjdefhieilpaaW.PrintMore Go.Proofs.Ytccjdefhieilpaa.PB Go.Proofs.Ytccjdefhieilpaa.PL Go.Proofs.Ytccjdefhieilpaa.PG Go.Proofs.Ytccjdefhieilpaa.Pure
attribute [local go_sem] max2_int min2_int max_two min_two max_three min_three max_four min_four   -- for this text's walks alone
set_option linter.unusedVariables false
set_option linter.unusedSimpArgs false
theorem writeD_ok {d : D} {a : Int} {xs : List Int} (hd : d.dead = false) (hf : d.fuse = 0) (hs : d.b.length ≤ 1048576) (h0 : 0 ≤ a) (h1 : a + xs.length ≤ d.b.length) : writeD d a xs = (⟨d.b, d.ws ++ [⟨a, xs⟩], false, 0⟩, 0) := by
 have hw : wrap64 ((d.b.length : Int) - a) = (d.b.length : Int) - a := by unfold wrap64; omega
 have hp : powerD d a xs.length = 0 := by
  unfold powerD
  rw [hw, if_neg (by rw [hd]; exact Bool.false_ne_true), if_neg (by omega), if_neg (by omega), if_neg (by omega), if_neg (by omega)]
 have hb : burnD d = (d, 0) := by unfold burnD; rw [if_pos hf]
 unfold writeD
 rw [if_pos hp, hb, if_pos rfl, hd, hf]
theorem flushD_ok {d : D} (hd : d.dead = false) (hf : d.fuse = 0) (hs : d.b.length ≤ 1048576) : flushD d = (⟨layAll d.b d.ws, [], false, 0⟩, 0) := by
 have hw : wrap64 ((d.b.length : Int) - 0) = (d.b.length : Int) := by unfold wrap64; omega
 have hp : powerD d 0 0 = 0 := by
  unfold powerD
  rw [hw, if_neg (by rw [hd]; exact Bool.false_ne_true), if_neg (by omega), if_neg (by omega), if_neg (by omega), if_neg (by omega)]
 have hb : burnD d = (d, 0) := by unfold burnD; rw [if_pos hf]
 unfold flushD
 rw [if_pos hp, hb, if_pos rfl, hd, hf]
theorem appendV_ok {d : D} {v : V} {e : S68} (hv : v.dead = false) (hd : d.dead = false) (hf : d.fuse = 0) (hs : d.b.length ≤ 1048576) (hr : Spec.rightE (p68 e)) (h0 : 0 ≤ v.en) (h1 : v.en + ((Spec.frameL (p68 e)).length : Int) + 1 ≤ d.b.length) :
  appendV d v e = (⟨d.b, d.ws ++ [⟨v.en, Spec.frameL (p68 e) ++ [0]⟩], false, 0⟩, ⟨v.l ++ [e], v.en + ((Spec.frameL (p68 e)).length : Int), false⟩, 0) := by
 have hw : wrap64 ((d.b.length : Int) - v.en) = (d.b.length : Int) - v.en := by unfold wrap64; omega
 have hw2 : wrap64 (v.en + ((Spec.frameL (p68 e)).length : Int)) = v.en + ((Spec.frameL (p68 e)).length : Int) := by unfold wrap64; omega
 have hk := writeD_ok (d := d) (a := v.en) (xs := Spec.frameL (p68 e) ++ [0]) hd hf hs h0 (by rw [List.length_append, List.length_singleton]; omega)
 unfold appendV
 rw [if_neg (by rw [hv]; exact Bool.false_ne_true), if_pos hr, hw, if_neg (by omega), hk, if_pos rfl, hw2]
theorem read_stop (k : Nat) (f : List Int) (h : f = [] ∨ (0 < f.length ∧ rd f 0 ≠ 231)) : Spec.readL k f = ([], 0) := by
 rcases h with rfl | ⟨h0, h1⟩
 ·exact Spec.readL_err k [] (by decide)
 ·have hs : Spec.sizeL f = (0, 0, 3) := by
   unfold Spec.sizeL
   rw [if_pos (.inl ⟨h0, h1⟩)]
  exact Spec.readL_err k f (by rw [nextL_err hs (by decide)]; exact (by decide : (3 : Int) ≠ 0))
theorem readS_zeros (n : Nat) : readS (List.replicate n 0) = [] ∧ readN (List.replicate n 0) = 0 := by
 have h : Spec.readL ((List.replicate n (0 : Int)).length + 1) (List.replicate n 0) = ([], 0) := read_stop _ _ (by
  cases n with
  | zero => exact .inl rfl
  | succ n => exact .inr ⟨by simp, by simp [List.replicate_succ, Spec.rd_cons0]⟩)
 unfold readS readN
 rw [h]
 exact ⟨rfl, rfl⟩
theorem zeros_bytes (n : Nat) : Bytes (List.replicate n 0) := fun x hx => by rw [(List.mem_replicate.1 hx).2]; omega
theorem readS_zero (l : List S68) (z : List Int) (hr : Rights l) (hd : Datas l) (hz : Bytes z) : readS (framesS l ++ 0 :: z) = l ∧ readN (framesS l ++ 0 :: z) = (framesS l).length := by
 have hb : Bytes (framesS l ++ 0 :: z) := by
  refine Bytes.append ?_ (fun x hx => ?_)
  ·unfold framesS
   exact Spec.framesL_bytes fun e he => by
    obtain ⟨x, hx, rfl⟩ := List.mem_map.1 he
    exact ⟨hr x hx, hd x hx⟩
  ·rcases List.mem_cons.1 hx with rfl | hx
   ·omega
   ·exact hz x hx
 have hat := Spec.readL_at hb (k := (framesS l ++ 0 :: z).length + 1) (Nat.lt_succ_self _) l.length
 have hf := Spec.readL_frames (l.map p68) (0 :: z) ((framesS l ++ 0 :: z).length + 1) (fun e he => by
  obtain ⟨x, hx, rfl⟩ := List.mem_map.1 he
  exact hr x hx)
 rw [List.length_map] at hf
 rw [read_stop _ (0 :: z) (.inr ⟨by simp, by simp [Spec.rd_cons0]⟩)] at hf
 have e := hat.symm.trans hf
 unfold readS readN
 rw [e]
 refine ⟨?_, rfl⟩
 rw [List.append_nil, List.map_map]
 exact List.map_id _
def e1 : S68 := ⟨1, []⟩
def e2 : S68 := ⟨2, []⟩
theorem right1 : Spec.rightE (p68 e1) := ⟨by decide, by decide, by decide⟩
theorem right2 : Spec.rightE (p68 e2) := ⟨by decide, by decide, by decide⟩
theorem len1 : (Spec.frameL (p68 e1)).length = 7 := by rw [Spec.frameL_length]; rfl
theorem len2 : (Spec.frameL (p68 e2)).length = 7 := by rw [Spec.frameL_length]; rfl
def b2 : List Int := layL (List.replicate 100 0) 0 (Spec.frameL (p68 e1) ++ [0])
theorem b2_eq : b2 = framesS [e1] ++ 0 :: List.replicate 92 0 := by
 unfold b2 layL
 rw [List.length_append, len1]
 show [] ++ (Spec.frameL (p68 e1) ++ [0] ++ List.drop (0 + (7 + 1)) (List.replicate 100 0)) = framesS [e1] ++ 0 :: List.replicate 92 0
 rw [List.drop_replicate, List.nil_append, framesS_cons, List.append_assoc, List.append_assoc]
 rfl
theorem rights1 : Rights [e1] := fun x hx => by rw [List.mem_singleton.1 hx]; exact right1
theorem datas1 : Datas [e1] := fun x hx => by rw [List.mem_singleton.1 hx]; exact Bytes.nil
theorem b2_read : readS b2 = [e1] ∧ readN b2 = (framesS [e1]).length := by
 rw [b2_eq]
 exact readS_zero [e1] _ rights1 datas1 (zeros_bytes 92)
theorem b2_bytes : Bytes b2 := by
 rw [b2_eq]
 refine Bytes.append ?_ (fun x hx => ?_)
 ·unfold framesS
  exact Spec.framesL_bytes fun e he => by
   obtain ⟨x, hx, rfl⟩ := List.mem_map.1 he
   exact ⟨rights1 x hx, datas1 x hx⟩
 ·rcases List.mem_cons.1 hx with rfl | hx
  ·omega
  ·exact zeros_bytes 92 x hx
theorem b2_length : b2.length = 100 := by
 unfold b2
 rw [layL_length _ _ _ (by rw [List.length_append, len1]; simp), List.length_replicate]
set_option maxHeartbeats 16000000 in
set_option maxRecDepth 100000 in
theorem heads_calls (w : World) : Calls Try.prog 59 #[] w fun e w' => e = .returned (.bool true) ∧ Below w.heap.size w w' := by
 go_enter Try.func59, Try.ntmps59
 go_wp2_with fail
 refine (new_calls w 100 (by decide) (by decide)).mono ?_
 rintro e w1 ⟨gd, Sd, rfl, hd, hs, hb⟩
 have HD1 := Aside0.mk hd
 have HS1 := Aside0.mk hs
 have HB1 := Aside0.mk hb
 clear hd hs hb
 go_wp2_with fail
 refine (open_calls HD1.out rfl (zeros_bytes 100)).mono ?_
 rintro e w2 ⟨g, S, rfl, hB, hsS, hb2⟩
 have hv : (⟨readS (layAll (newD 100).b (newD 100).ws), (readN (layAll (newD 100).b (newD 100).ws) : Int), false⟩ : V) = ⟨[], 0, false⟩ := by
  have h := readS_zeros 100
  show (⟨readS (List.replicate 100 0), (readN (List.replicate 100 0) : Int), false⟩ : V) = _
  rw [h.1, h.2]
  rfl
 rw [hv] at hB
 have HB2 := Aside0.mk (below_step HB1.out hb2)
 have H2 := Aside0.mk hB
 have HS2 := Aside0.mk (show ∀ k, S k ∨ Sd k → w.heap.size ≤ k from fun k hk => hk.elim (fun h => Nat.le_trans HB1.out.size (hsS k h)) (HS1.out k))
 clear hB hb2 hv hsS
 go_wp2_with fail
 refine (horariumlaw48_entry.calls 1 1 [] w2 rfl).mono ?_
 rintro e w3 ⟨v3, rfl, hr3, hb3⟩
 obtain ⟨A3, c3, hv3, hc3, hC3⟩ := Kd.R_reads hr3
 subst hv3
 have H3 := Aside0.mk (H2.out.below hb3)
 have HB3 := Aside0.mk (below_step HB2.out hb3)
 have HF3 := Aside0.mk (Kd.F_mono (Kd.R_F (Kd.R_bound hr3)) (ok' := fun k => ¬ (S k ∨ Sd k)) (fun k hk hs => hs.elim (fun h => by have h1 := H2.out.vlt.lt k h; have h2 := hk.2.1; omega) (fun h => by have h1 := H2.out.dev.lt k h; have h2 := hk.2.1; omega)))
 have HC3 := Aside0.mk hc3
 clear hr3 hb3 hC3 hc3
 go_wp2_with fail
 refine (append_calls H3.out 1 A3 c3 [] HF3.out HC3.out (Nat.zero_le _) Bytes.nil (Nat.zero_le _) (Nat.zero_le _)).mono ?_
 rintro e w4 ⟨rfl, hw4, Sd4, S4, hB4, hS4⟩
 have ha : appendV (newD 100) ⟨[], 0, false⟩ ⟨1, []⟩ = (⟨List.replicate 100 0, [⟨0, Spec.frameL (p68 e1) ++ [0]⟩], false, 0⟩, ⟨[e1], 7, false⟩, 0) := by
  have h := appendV_ok (d := newD 100) (v := ⟨[], 0, false⟩) (e := e1) rfl rfl rfl (by show (List.replicate 100 (0 : Int)).length ≤ _; rw [List.length_replicate]; decide) right1 (Int.le_refl _) (by rw [len1]; show (0 : Int) + ((7 : Nat) : Int) + 1 ≤ ((List.replicate 100 (0 : Int)).length : Nat); rw [List.length_replicate]; decide)
  rw [len1] at h
  exact h
 rw [ha] at hB4 ⊢
 have H4 := Aside0.mk hB4
 have HB4 := Aside0.mk (HB3.out.trans (hw4.to_below HB3.out.size HS2.out))
 have HS4 := Aside0.mk (show ∀ k, S4 k ∨ Sd4 k → w.heap.size ≤ k from fun k hk => (hS4 k hk).elim (HS2.out k) (fun h => Nat.le_trans HB3.out.size h))
 clear hw4 hB4 hS4 ha
 go_wp2_with fail
 refine (sync_calls H4.out.dev H4.out.vlt H4.out.apart).mono ?_
 rintro e w5 ⟨rfl, hd5, hv5, hw5⟩
 have hfl : flushD (⟨List.replicate 100 0, [⟨0, Spec.frameL (p68 e1) ++ [0]⟩], false, 0⟩ : D) = (⟨b2, [], false, 0⟩, 0) := flushD_ok rfl rfl (by show (List.replicate 100 (0 : Int)).length ≤ _; rw [List.length_replicate]; decide)
 rw [if_neg Bool.false_ne_true, hfl] at hd5 hv5
 rw [if_neg Bool.false_ne_true, hfl]
 have H5 := Aside0.mk (show Both Sd4 S4 w5 gd g ⟨b2, [], false, 0⟩ ⟨[e1], 7, false⟩ from ⟨hd5, hv5, H4.out.apart⟩)
 have HB5 := Aside0.mk (HB4.out.trans (hw5.to_below HB4.out.size HS4.out))
 clear hd5 hv5 hw5 hfl
 go_wp2_with fail
 refine (horariumlaw48_entry.calls 2 2 [] w5 rfl).mono ?_
 rintro e w6 ⟨v6, rfl, hr6, hb6⟩
 obtain ⟨A6, c6, hv6, hc6, hC6⟩ := Kd.R_reads hr6
 subst hv6
 have H6 := Aside0.mk (H5.out.below hb6)
 have HB6 := Aside0.mk (below_step HB5.out hb6)
 have HF6 := Aside0.mk (Kd.F_mono (Kd.R_F (Kd.R_bound hr6)) (ok' := fun k => ¬ (S4 k ∨ Sd4 k)) (fun k hk hs => hs.elim (fun h => by have h1 := H5.out.vlt.lt k h; have h2 := hk.2.1; omega) (fun h => by have h1 := H5.out.dev.lt k h; have h2 := hk.2.1; omega)))
 have HC6 := Aside0.mk hc6
 clear hr6 hb6 hC6 hc6
 go_wp2_with fail
 refine (append_calls H6.out 2 A6 c6 [] HF6.out HC6.out (Nat.zero_le _) Bytes.nil (by decide) (Nat.zero_le _)).mono ?_
 rintro e w7 ⟨rfl, hw7, Sd7, S7, hB7, hS7⟩
 have ha : appendV (⟨b2, [], false, 0⟩ : D) ⟨[e1], 7, false⟩ ⟨2, []⟩ = (⟨b2, [⟨7, Spec.frameL (p68 e2) ++ [0]⟩], false, 0⟩, ⟨[e1, e2], 14, false⟩, 0) := by
  have h := appendV_ok (d := ⟨b2, [], false, 0⟩) (v := ⟨[e1], 7, false⟩) (e := e2) rfl rfl rfl (by show b2.length ≤ _; rw [b2_length]; decide) right2 (by decide) (by rw [len2]; show (7 : Int) + ((7 : Nat) : Int) + 1 ≤ (b2.length : Nat); rw [b2_length]; decide)
  rw [len2] at h
  exact h
 rw [ha] at hB7 ⊢
 have H7 := Aside0.mk hB7
 have HB7 := Aside0.mk (HB6.out.trans (hw7.to_below HB6.out.size HS4.out))
 have HS7 := Aside0.mk (show ∀ k, S7 k ∨ Sd7 k → w.heap.size ≤ k from fun k hk => (hS7 k hk).elim (HS4.out k) (fun h => Nat.le_trans HB6.out.size h))
 clear hw7 hB7 hS7 ha
 go_wp2_with fail
 refine (room_calls H7.out.dev H7.out.vlt).mono ?_
 rintro e w8 ⟨rfl, hb8⟩
 have hroom : wrap64 ((b2.length : Int) - 14) = 86 := by rw [b2_length]; unfold wrap64; omega
 rw [hroom]
 have H8 := Aside0.mk (H7.out.below hb8)
 have HB8 := Aside0.mk (below_step HB7.out hb8)
 clear hb8 hroom
 go_wp2_with fail
 refine (crash_calls H8.out.dev 0).mono ?_
 rintro e w9 ⟨rfl, hd9, hw9⟩
 have H9 := Aside0.mk (show Dev Sd7 w9 gd ⟨b2, [], false, 0⟩ from hd9)
 have HB9 := Aside0.mk (HB8.out.trans (hw9.to_below HB8.out.size (fun k hk => HS7.out k (.inr hk))))
 clear hd9 hw9
 go_wp2_with fail
 refine (open_calls H9.out rfl (by exact b2_bytes)).mono ?_
 rintro e w10 ⟨g2, S10, rfl, hB10, hs10, hb10⟩
 have hv10 : (⟨readS (layAll (⟨b2, [], false, 0⟩ : D).b (⟨b2, [], false, 0⟩ : D).ws), (readN (layAll (⟨b2, [], false, 0⟩ : D).b (⟨b2, [], false, 0⟩ : D).ws) : Int), false⟩ : V) = ⟨[e1], ((framesS [e1]).length : Int), false⟩ := by
  show (⟨readS b2, (readN b2 : Int), false⟩ : V) = _
  rw [b2_read.1, b2_read.2]
 rw [hv10] at hB10
 have H10 := Aside0.mk hB10
 have HB10 := Aside0.mk (below_step HB9.out hb10)
 clear hB10 hs10 hb10 hv10
 go_wp2_with fail
 refine (entries_calls H10.out.vlt (by decide) (fun x hx => by rw [List.mem_singleton.1 hx]; exact Nat.zero_le _)).mono ?_
 rintro e w11 ⟨u11, rfl, hu11, hb11⟩
 obtain ⟨A11, c11, hu⟩ := Kd.S_slice hu11
 subst hu
 have HU11 := Aside0.mk hu11
 have H11 := Aside0.mk (H10.out.below hb11)
 have HB11 := Aside0.mk (below_step HB10.out hb11)
 clear hu11 hb11
 go_wp2_with fail
 refine (horariumlaw48_entry.calls 1 1 [] w11 rfl).mono ?_
 rintro e w12 ⟨v12, rfl, hr12, hb12⟩
 obtain ⟨A12, c12, hv12, hc12, hC12⟩ := Kd.R_reads hr12
 subst hv12
 have HR12 := Aside0.mk (Kd.R_F hr12)
 have HC12 := Aside0.mk hc12
 have HU12 := Aside0.mk (Kd.S_below HU11.out hb12)
 have HB12 := Aside0.mk (below_step HB11.out hb12)
 have H12 := Aside0.mk (H11.out.below hb12)
 clear hr12 hb12 hC12 hc12
 obtain ⟨ks, hks⟩ : ∃ ks, 100 ≤ ks := ⟨_, Nat.le_refl _⟩
 have hsame := Aside0.mk (show horariumref47_Same.f ks [e1] [e1] = some true from (rsame_eq ks [e1] [e1] datas1 datas1 (by decide) (Nat.le_trans (by decide) hks)).trans (congrArg some (decide_eq_true rfl)))
 clear hks
 go_wp2_with (first | ((with_reducible refine gate_dst (N := 57) rfl ?_); (try (refine gate_guard (by rfl) ?_; dsimp only)); refine Kd.N_lit k68 (w0 := w12) w12.heap.size 68 ?hg (N' := 57) ?hd (xs := [e1]) (inner := [.int .i64 1, .slice A12 0 c12]) (ok := fun _ => True) (okp := fun _ => True) ?hr ?hp (fun _ hk => hk) trivial (Below.refl _ _) (Nat.le_refl _) (by simp) ?_; (case hd => rfl); (case hg => rfl); (case hr => first | (go_simp; done) | (go_simp; rfl)); (case hp => exact (Reps.c2 (k68_mkF w12 _ e1 HC12.out HR12.out) (Reps.none _ _))); intro v13 w13 hn13 hb13 hg13 hat13; obtain ⟨A13, c13, hv13, hc13, hC13⟩ := Kd.N_reads hn13; subst hv13; have HN13 := Aside0.mk hC13; have HC13 := Aside0.mk hc13; have HU13 := Aside0.mk (Kd.S_below HU12.out hb13); have HB13 := Aside0.mk (below_step HB12.out hb13); have H13 := Aside0.mk (H12.out.below hb13); clear hn13 hb13 hg13 hat13 hc13 hC13))
 refine (horariumref47_Same.calls ks A11 c11 [e1] A13 c13 [e1] true _ (Kd.S_reads' HU13.out).2.2 (Kd.S_reads' HU13.out).2.1 HN13.out HC13.out hsame.out).mono ?_
 rintro e w14 ⟨rfl, hd14⟩
 have hb14 := hd14.below
 have HB14 := Aside0.mk (below_step HB13.out hb14)
 have H14 := Aside0.mk (H13.out.below hb14)
 clear hb14
 go_wp2_with fail
 refine (size_calls H14.out.dev).mono ?_
 rintro e w15 ⟨rfl, hb15⟩
 have hlen : ((b2.length : Nat) : Int) = 100 := by rw [b2_length]; rfl
 rw [hlen]
 have HB15 := Aside0.mk (below_step HB14.out hb15)
 clear hb15 hlen
 go_wp2_with fail
 go_ret
 exact ⟨rfl, HB15.out⟩
end Go.Proofs.Ytccjdefhieilpaa.VT
