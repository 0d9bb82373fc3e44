/-
  SumBurst: with a burst of at most 32 turned bits nothing is opened, for every input of the statement.
-/
import Derived.Test.YtccjdefhieilpaaPBx11
import Derived.Test.YtccjdefhieilpaaSealPure
import Derived.Test.YtccjdefhieilpaaBurst
import Derived.OpenShut
namespace Go.Proofs.Ytccjdefhieilpaa.Pure
open Go.RowKit Go.Proofs.Ytccjdefhieilpaa.PB Go.Proofs.YtccjdefhieilpaaW.PrintWords Go.Proofs.YtccjdefhieilpaaW.PrintLast Go.Proofs.YtccjdefhieilpaaW.PrintMore

/-- What the statement asks behind its loop. -/
def burstEnd (k : Nat) (b x y : List Int) : Option Bool :=
  (sum_Open.f k y).bind fun o => (horariumref03_Same.f x y).bind fun e => if e = true then (if o.2 = 0 then ((horariumref03_Same.f o.1 b).bind fun q => (if q = true then ((horariumlaw04_heads.f k).bind fun h => some h) else some false)) else some false) else (if o.2 = 27 then (if (o.1.length : Int) = 0 then ((horariumlaw04_heads.f k).bind fun h => some h) else some false) else some false)

theorem burst_stop (K : Nat) (b x y : List Int) (s t i : Nat) (hy : y.length ≤ 2004) (hs : s < 8 * y.length) (hi : i ≤ 32) (h : i = 32 ∨ 8 * y.length ≤ s + i) :
    horariumlaw04_SumBurst.l0 (K + 2) b (s : Int) (t : Int) x y (i : Int) = burstEnd K b x y := by
  have e : ∀ z, z = false → horariumlaw04_SumBurst.j2 (K + 1) b (s : Int) (t : Int) x y (i : Int) z = burstEnd K b x y := by
    intro z hz
    subst hz
    rw [horariumlaw04_SumBurst.j2, if_neg (by decide)]
    rfl
  rw [horariumlaw04_SumBurst.l0]
  split
  · exact e _ (decide_eq_false (by unfold wrap64; omega))
  · exact e _ rfl

theorem burst_round (K : Nat) (b x y : List Int) (s t i : Nat) (hb : Bytes y) (hy : y.length ≤ 2004) (hi : i < 32) (h : s + i < 8 * y.length) :
    horariumlaw04_SumBurst.l0 (K + 2) b (s : Int) (t : Int) x y (i : Int) = horariumlaw04_SumBurst.l0 K b (s : Int) (t : Int) x
      (if t / 2 ^ i % 2 = 1 then y.set ((s + i) / 8) (((y.getD ((s + i) / 8) 0).toNat ^^^ 2 ^ ((s + i) % 8) : Nat) : Int) else y) ((i + 1 : Nat) : Int) := by
  have w1 : wrap64 ((s : Int) + (i : Int)) = ((s + i : Nat) : Int) := by unfold wrap64; omega
  have w2 : wrap64 (8 * (y.length : Int)) = ((8 * y.length : Nat) : Int) := by unfold wrap64; omega
  have w3 : IntKind.u64.wrap (i : Int) = (i : Int) := by rw [IntKind.wrap_u64]; omega
  have w4 : Int.tmod (shr .u32 (t : Int) (i : Int)) 2 = ((t / 2 ^ i % 2 : Nat) : Int) := by
    have : shr .u32 (t : Int) (i : Int) = ((t / 2 ^ i : Nat) : Int) := by
      unfold shr
      rw [Int.toNat_natCast, show IntKind.u32.bits = 32 from rfl, Nat.min_eq_left (by omega), Int.natCast_ediv, Int.natCast_pow]
      rfl
    rw [this]
    generalize t / 2 ^ i = q
    rw [Int.tmod_eq_emod_of_nonneg (by omega)]
    omega
  have w5 : wrap64 (Int.tdiv ((s + i : Nat) : Int) 8) = (((s + i) / 8 : Nat) : Int) := by
    rw [Int.tdiv_eq_ediv_of_nonneg (by omega)]
    unfold wrap64
    omega
  have w6 : IntKind.u64.wrap (Int.tmod ((s + i : Nat) : Int) 8) = (((s + i) % 8 : Nat) : Int) := by
    rw [Int.tmod_eq_emod_of_nonneg (by omega), IntKind.wrap_u64]
    omega
  have w7 : shl .u8 1 (((s + i) % 8 : Nat) : Int) = ((2 ^ ((s + i) % 8) : Nat) : Int) := by
    have hj : (s + i) % 8 < 8 := Nat.mod_lt _ (by decide)
    generalize (s + i) % 8 = j at hj
    have hp : (2 : Nat) ^ j < 256 := Nat.pow_lt_pow_right (n := 8) (by decide) hj
    unfold shl
    rw [Int.toNat_natCast, show IntKind.u8.bits = 8 from rfl, Nat.min_eq_left (by omega), IntKind.wrap_u8, Int.one_mul]
    have : ((2 : Int) ^ j) = ((2 ^ j : Nat) : Int) := by rw [Int.natCast_pow]; rfl
    rw [this]
    generalize (2 : Nat) ^ j = p at hp ⊢
    omega
  have w8 : bits .xor .u8 (rd y (((s + i) / 8 : Nat) : Int)) ((2 ^ ((s + i) % 8) : Nat) : Int) = (((y.getD ((s + i) / 8) 0).toNat ^^^ 2 ^ ((s + i) % 8) : Nat) : Int) := by
    obtain ⟨h0, h1⟩ := hb.at ((s + i) / 8)
    have hr : rd y (((s + i) / 8 : Nat) : Int) = y.getD ((s + i) / 8) 0 := by unfold rd; rw [Int.toNat_natCast]
    rw [hr] at h0 h1 ⊢
    have hp : (2 : Nat) ^ ((s + i) % 8) < 256 := Nat.pow_lt_pow_right (n := 8) (by decide) (Nat.mod_lt _ (by decide))
    obtain ⟨v, hv⟩ := Int.eq_ofNat_of_zero_le h0
    rw [hv] at h1 ⊢
    exact u8_xor_nat v _ (by omega) hp
  rw [horariumlaw04_SumBurst.l0, if_pos (by omega), w1, w2, show decide (((s + i : Nat) : Int) < ((8 * y.length : Nat) : Int)) = true from decide_eq_true (by omega),
    horariumlaw04_SumBurst.j2, if_pos rfl, w3, if_pos (by omega), w4, w1, w5, w6, w7, w8, wrap_succ (n := 32) hi (by decide)]
  by_cases hbit : t / 2 ^ i % 2 = 1
  · rw [if_pos (by omega), if_pos (by omega), if_pos (by omega), if_pos (by omega), if_pos hbit, Int.toNat_natCast]
  · rw [if_neg (by omega), if_neg hbit]

theorem burst_loop (b x : List Int) (s t m : Nat) (hx : x.length ≤ 2004) (hs : s < 8 * x.length) (hm : m ≤ 32) (hm2 : s + m ≤ 8 * x.length) (hend : m = 32 ∨ 8 * x.length ≤ s + m) (K d : Nat) :
    ∀ (i : Nat) (y : List Int), i + d = m → Bytes y → y.length = x.length → Spec.num y = Spec.num x ^^^ t % 2 ^ i * 2 ^ s →
      ∃ y', Bytes y' ∧ y'.length = x.length ∧ Spec.num y' = Spec.num x ^^^ t % 2 ^ m * 2 ^ s ∧ horariumlaw04_SumBurst.l0 (K + 2 * d + 2) b (s : Int) (t : Int) x y (i : Int) = burstEnd K b x y' := by
  induction d with
  | zero =>
    intro i y hi hb hl hn
    obtain rfl : i = m := by omega
    exact ⟨y, hb, hl, hn, burst_stop K b x y s t i (by omega) (by omega) hm (by omega)⟩
  | succ d ih =>
    intro i y hi hb hl hn
    have hr := burst_round (K + 2 * d + 2) b x y s t i hb (by omega) (by omega) (by omega)
    rw [show K + 2 * (d + 1) + 2 = (K + 2 * d + 2) + 2 from by omega, hr]
    by_cases hbit : t / 2 ^ i % 2 = 1
    · rw [if_pos hbit]
      have hq : (s + i) / 8 < y.length := by omega
      have hj : (s + i) % 8 < 8 := Nat.mod_lt _ (by decide)
      refine ih (i + 1) _ (by omega) ?_ (by simpa using hl) ?_
      · intro v hv
        rcases List.mem_or_eq_of_mem_set hv with h | h
        · exact hb v h
        · obtain ⟨h0, h1⟩ := hb.at ((s + i) / 8)
          have hrd : rd y (((s + i) / 8 : Nat) : Int) = y.getD ((s + i) / 8) 0 := by unfold rd; rw [Int.toNat_natCast]
          rw [hrd] at h0 h1
          have hp : (2 : Nat) ^ ((s + i) % 8) < 2 ^ 8 := Nat.pow_lt_pow_right (by decide) hj
          have : (y.getD ((s + i) / 8) 0).toNat ^^^ 2 ^ ((s + i) % 8) < 2 ^ 8 := Nat.xor_lt_two_pow (by omega) hp
          omega
      · rw [Spec.num_set y _ _ hb hq hj, hn, Spec.bit_up t i s hbit, Nat.xor_assoc, show 8 * ((s + i) / 8) + (s + i) % 8 = s + i from by omega]
    · rw [if_neg hbit]
      refine ih (i + 1) y (by omega) hb hl ?_
      rw [Spec.bit_stays t i (by omega)]
      exact hn

theorem residue_open {z : List Int} (hz : Bytes z) (h : (Spec.openL z).2 = 0) : 4 ≤ z.length ∧ Spec.regN 4294967295 z = Spec.steps 32 4294967295 := by
  unfold Spec.openL at h
  split at h
  · simp at h
  · rename_i h4
    split at h
    · rename_i hd
      refine ⟨by omega, ?_⟩
      have := Spec.residue (z.take (z.length - 4)) (hz.take _) (z.drop (z.length - 4)) hd
      rwa [List.take_append_drop] at this
    · simp at h
theorem open_cases {z : List Int} (h : 4 ≤ z.length) : (Spec.openL z).2 = 0 ∨ Spec.openL z = ([], 27) := by
  unfold Spec.openL
  rw [if_neg (by omega)]
  split
  · exact .inl rfl
  · exact .inr rfl

theorem SumBurst : horariumlaw04_SumBurst.Pure := by
  intro l0 a1 a2 hm hn hb hw1 hw2
  have hb' := bytes_of_wf hb
  have hbs := sealL_bytes hb'
  obtain ⟨w0, w1⟩ := bounds_u32 hw2
  obtain ⟨t, rfl⟩ := Int.eq_ofNat_of_zero_le w0
  have ht : t < 4294967296 := by omega
  refine ⟨10 * l0.length + 500, ?_⟩
  have e5 := heads04_eq (10 * l0.length + 500) (by omega)
  unfold horariumlaw04_SumBurst.f
  by_cases h3 : (l0.length : Int) > 2000
  · rw [if_pos h3, e5]; rfl
  have e6 := seal_eq (10 * l0.length + 500) l0 hb' (by omega) (by omega)
  have hl4 := sealL_length l0
  have hw4 : wrap64 ((l0.length : Int) + 4) = ((l0.length + 4 : Nat) : Int) := by unfold wrap64; omega
  have hw8 : wrap64 (8 * ((Spec.sealL l0).length : Int)) = ((8 * (l0.length + 4) : Nat) : Int) := by rw [hl4]; unfold wrap64; omega
  have out : ∀ z, z = true → horariumlaw04_SumBurst.j0 (10 * l0.length + 500) l0 a1 (t : Int) (Spec.sealL l0) z = some true := by
    intro z hz
    subst hz
    rw [show 10 * l0.length + 500 = (10 * l0.length + 499) + 1 from rfl, horariumlaw04_SumBurst.j0, if_pos rfl, hw4, hl4, if_pos rfl, heads04_eq _ (by omega)]
    rfl
  rw [if_neg h3, e6, Option.bind_some, hw4, if_pos (by rw [hl4]), hw8]
  by_cases h0 : a1 < 0
  · rw [if_pos h0]
    exact out true rfl
  rw [if_neg h0]
  by_cases h8 : a1 ≥ ((8 * (l0.length + 4) : Nat) : Int)
  · exact out _ (decide_eq_true h8)
  rw [decide_eq_false h8]
  obtain ⟨s, rfl⟩ := Int.eq_ofNat_of_zero_le (Int.not_lt.1 h0)
  have hs : s < 8 * (l0.length + 4) := by omega
  rw [show 10 * l0.length + 500 = (10 * l0.length + 499) + 1 from rfl, horariumlaw04_SumBurst.j0, if_neg (by decide)]
  simp only [Option.bind_some, List.length_nil, Nat.zero_add, List.nil_append]
  rw [if_pos (by omega)]
  obtain ⟨m, hm32, hms, hmend⟩ : ∃ m, m ≤ 32 ∧ s + m ≤ 8 * (Spec.sealL l0).length ∧ (m = 32 ∨ 8 * (Spec.sealL l0).length ≤ s + m) := ⟨min 32 (8 * (l0.length + 4) - s), by omega, by omega, by omega⟩
  obtain ⟨y, yb, yl, yn, ye⟩ := burst_loop l0 (Spec.sealL l0) s t m (by omega) (by omega) hm32 hms hmend (10 * l0.length + 497 - 2 * m) m 0 (Spec.sealL l0) (by omega) hbs rfl (by rw [Nat.pow_zero, Nat.mod_one, Nat.zero_mul, Nat.xor_zero])
  rw [show 10 * l0.length + 499 = (10 * l0.length + 497 - 2 * m) + 2 * m + 2 from by omega, show (0 : Int) = ((0 : Nat) : Int) from rfl, ye]
  have o1 := open_eq (10 * l0.length + 497 - 2 * m) y yb (by omega) (by omega)
  have o2 := heads04_eq (10 * l0.length + 497 - 2 * m) (by omega)
  have o3 := same_iff hbs yb
  unfold burstEnd
  rw [o1, o2, o3]
  by_cases hxy : Spec.sealL l0 = y
  · rw [decide_eq_true hxy, ← hxy, open_seal, Option.bind_some, Option.bind_some, if_pos rfl, if_pos rfl, same_self, Option.bind_some, if_pos rfl, Option.bind_some]
  · have hx4 := residue_open hbs (by rw [open_seal])
    rcases open_cases (z := y) (by omega) with ho | ho
    · exfalso
      have hy4 := residue_open yb ho
      exact hxy (Spec.burst_none (Spec.sealL l0) y hbs yb yl (t % 2 ^ m) s (Nat.lt_of_le_of_lt (Nat.mod_le _ _) ht) (by omega) yn (hx4.2.trans hy4.2.symm)).symm
    · rw [decide_eq_false hxy, ho, Option.bind_some, Option.bind_some, if_neg (by decide), if_pos rfl, if_pos (show (([] : List Int).length : Int) = 0 from rfl), Option.bind_some]

end Go.Proofs.Ytccjdefhieilpaa.Pure
