/-
  What Mix, Unmix and Digest of sum, and of its reference, come to as plain functions of numbers.
-/
import Derived.Test.YtccjdefhieilpaaSumPure
import Derived.Test.YtccjdefhieilpaaMix
namespace Go.Proofs.Ytccjdefhieilpaa.Pure
open Go.RowKit Go.Proofs.Ytccjdefhieilpaa.PB Go.Proofs.YtccjdefhieilpaaW.PrintWords Go.Proofs.YtccjdefhieilpaaW.PrintLast Go.Proofs.YtccjdefhieilpaaW.PrintMore

theorem wrap_nat (n : Nat) (h : n < 18446744073709551616) : IntKind.u64.wrap (n : Int) = (n : Int) := by rw [IntKind.wrap_u64]; omega
theorem mul_nat (n c : Nat) : IntKind.u64.wrap ((n : Int) * (c : Int)) = ((n * c % 18446744073709551616 : Nat) : Int) := by
  rw [IntKind.wrap_u64, ← Int.natCast_mul]
  omega
theorem xs_nat (n : Nat) (s : Nat) (h : n < 18446744073709551616) : bits .xor .u64 (n : Int) ((n : Int) / (s : Int)) = ((n ^^^ n / s : Nat) : Int) := xorShift_u64 n s h
theorem mix_eq (n : Nat) (h : n < 18446744073709551616) : sum_Mix.f (n : Int) = some (Spec.mixN n : Int) := by
  have hm : ∀ x, x % 18446744073709551616 < 18446744073709551616 := fun x => Nat.mod_lt _ (by decide)
  unfold sum_Mix.f
  rw [show (4294967296 : Int) = ((4294967296 : Nat) : Int) from rfl, show (536870912 : Int) = ((536870912 : Nat) : Int) from rfl,
    show (11400714819323198485 : Int) = ((11400714819323198485 : Nat) : Int) from rfl, show (15485907386658061715 : Int) = ((15485907386658061715 : Nat) : Int) from rfl,
    xs_nat n _ h, mul_nat, xs_nat _ _ (hm _), mul_nat, xs_nat _ _ (hm _)]
  rfl
theorem tdiv_nat (n s : Nat) (h : n < 18446744073709551616) : IntKind.u64.wrap (Int.tdiv (n : Int) (s : Int)) = (n : Int) / (s : Int) := by
  rw [Int.tdiv_eq_ediv_of_nonneg (by omega), IntKind.wrap_u64]
  have : (n : Int) / (s : Int) = ((n / s : Nat) : Int) := (Int.natCast_ediv n s).symm
  have h2 := Nat.div_le_self n s
  rw [this]
  clear this
  generalize n / s = q at h2 ⊢
  omega
theorem rmix_eq (n : Nat) (h : n < 18446744073709551616) : horariumref04_Mix.f (n : Int) = some (Spec.mixN n : Int) := by
  have hm : ∀ x, x % 18446744073709551616 < 18446744073709551616 := fun x => Nat.mod_lt _ (by decide)
  unfold horariumref04_Mix.f
  rw [show (4294967296 : Int) = ((4294967296 : Nat) : Int) from rfl, show (536870912 : Int) = ((536870912 : Nat) : Int) from rfl,
    show (11400714819323198485 : Int) = ((11400714819323198485 : Nat) : Int) from rfl, show (15485907386658061715 : Int) = ((15485907386658061715 : Nat) : Int) from rfl,
    tdiv_nat n _ h, xs_nat n _ h, mul_nat, tdiv_nat _ _ (hm _), xs_nat _ _ (hm _), mul_nat, tdiv_nat _ _ (hm _), xs_nat _ _ (hm _)]
  rfl

theorem shr_nat (n s : Nat) (hs : s ≤ 64) : shr .u64 (n : Int) (s : Int) = ((n / 2 ^ s : Nat) : Int) := by
  unfold shr
  rw [Int.toNat_natCast, show IntKind.u64.bits = 64 from rfl, Nat.min_eq_left hs, Int.natCast_ediv, Int.natCast_pow]
  rfl
theorem lift_eq (k : Nat) (n s : Nat) (h : n < 18446744073709551616) (hs : s = 32 ∨ s = 29) (hk : 3 ≤ k) : sum_lift.f k (n : Int) (s : Int) = some (Spec.liftN (2 ^ s) n : Int) := by
  refine at_rounds (sum_lift.mono _ _) hk ?_
  have hr : wrap64 (Int.tdiv (64 : Int) (s : Int)) = 2 := by rcases hs with rfl | rfl <;> decide +kernel
  have hd : ∀ x, x < 18446744073709551616 → x / 2 ^ s < 18446744073709551616 := fun x hx => Nat.lt_of_le_of_lt (Nat.div_le_self _ _) hx
  have hs64 : s ≤ 64 := by omega
  unfold sum_lift.f
  rw [if_neg (by omega), hr, sum_lift.l0, if_pos (by decide), if_pos (by omega), shr_nat n s hs64, u64_xor_nat n _ h (hd n h), show wrap64 (0 + 1) = 1 from by decide +kernel,
    sum_lift.l0, if_pos (by decide), if_pos (by omega), shr_nat _ s hs64, u64_xor_nat n _ h (hd _ (Spec.xor_lt64 h (hd n h))), show wrap64 (1 + 1) = 2 from by decide +kernel,
    sum_lift.l0, if_neg (by decide)]
  rfl
theorem inv2 (k : Nat) (hk : 8 ≤ k) : sum_inverse.f k 15485907386658061715 = some 14982988110149298331 := at_rounds (sum_inverse.mono _) hk (by decide +kernel)
theorem inv1 (k : Nat) (hk : 8 ≤ k) : sum_inverse.f k 11400714819323198485 = some 17428512612931826493 := at_rounds (sum_inverse.mono _) hk (by decide +kernel)
theorem rinv2 (k : Nat) (hk : 8 ≤ k) : horariumref04_turned.f k 15485907386658061715 = some 14982988110149298331 := at_rounds (horariumref04_turned.mono _) hk (by decide +kernel)
theorem rinv1 (k : Nat) (hk : 8 ≤ k) : horariumref04_turned.f k 11400714819323198485 = some 17428512612931826493 := at_rounds (horariumref04_turned.mono _) hk (by decide +kernel)
theorem unmix_eq (k n : Nat) (h : n < 18446744073709551616) (hk : 8 ≤ k) : sum_Unmix.f k (n : Int) = some (Spec.unmixN n : Int) := by
  have hm : ∀ x, x % 18446744073709551616 < 18446744073709551616 := fun x => Nat.mod_lt _ (by decide)
  unfold sum_Unmix.f
  rw [show (32 : Int) = ((32 : Nat) : Int) from rfl, show (29 : Int) = ((29 : Nat) : Int) from rfl, lift_eq k n 32 h (.inl rfl) (by omega), inv2 k hk, inv1 k hk]
  simp only [Option.bind_some]
  rw [show (14982988110149298331 : Int) = ((14982988110149298331 : Nat) : Int) from rfl, mul_nat, lift_eq k _ 29 (hm _) (.inr rfl) (by omega)]
  simp only [Option.bind_some]
  rw [show (17428512612931826493 : Int) = ((17428512612931826493 : Nat) : Int) from rfl, mul_nat, lift_eq k _ 32 (hm _) (.inl rfl) (by omega)]
  rfl
theorem runmix_eq (k n : Nat) (h : n < 18446744073709551616) (hk : 8 ≤ k) : horariumref04_Unmix.f k (n : Int) = some (Spec.unmixN n : Int) := by
  have hm : ∀ x, x % 18446744073709551616 < 18446744073709551616 := fun x => Nat.mod_lt _ (by decide)
  have dl : ∀ x s : Nat, x < 18446744073709551616 → x / s < 18446744073709551616 := fun x s hx => Nat.lt_of_le_of_lt (Nat.div_le_self _ _) hx
  have dd : ∀ x : Nat, ((x : Int) / ((536870912 : Nat) : Int)) = ((x / 536870912 : Nat) : Int) := fun x => (Int.natCast_ediv x _).symm
  unfold horariumref04_Unmix.f
  rw [rinv2 k hk, rinv1 k hk]
  simp only [Option.bind_some]
  rw [show (4294967296 : Int) = ((4294967296 : Nat) : Int) from rfl, show (536870912 : Int) = ((536870912 : Nat) : Int) from rfl,
    show (14982988110149298331 : Int) = ((14982988110149298331 : Nat) : Int) from rfl, show (17428512612931826493 : Int) = ((17428512612931826493 : Nat) : Int) from rfl,
    tdiv_nat n _ h, xs_nat n _ h, mul_nat, tdiv_nat _ _ (hm _), xs_nat _ _ (hm _), dd, tdiv_nat _ _ (dl _ _ (hm _)), dd,
    u64_xor_nat _ _ (Spec.xs_lt (hm _)) (dl _ _ (dl _ _ (hm _))), mul_nat, tdiv_nat _ _ (hm _), xs_nat _ _ (hm _)]
  unfold Spec.unmixN
  simp only []
  rw [Spec.lift32 n h, Spec.lift29, Spec.lift32 _ (hm _)]

theorem digest_l0 (bs : List Int) (hb : Bytes bs) (hn : bs.length ≤ 140737488351232) (d : Nat) : ∀ (c i : Nat), i + d = bs.length → c < 18446744073709551616 →
    sum_Digest.l0 (d + 1) (c : Int) bs (bs.length : Int) (i : Int) = some (Spec.digestN c (bs.drop i) : Int) ∧ horariumref04_Digest.l0 (d + 1) bs (c : Int) (i : Int) = some (Spec.digestN c (bs.drop i) : Int) := by
  induction d with
  | zero =>
    intro c i hi hc
    rw [sum_Digest.l0, if_neg (by omega), horariumref04_Digest.l0, if_neg (by omega), List.drop_eq_nil_of_le (by omega)]
    exact ⟨rfl, rfl⟩
  | succ d ih =>
    intro c i hi hc
    obtain ⟨h0, h1⟩ := hb.at i
    obtain ⟨b, hbn⟩ := Int.eq_ofNat_of_zero_le h0
    have hx : IntKind.u64.wrap (IntKind.u64.wrap ((c : Int) + IntKind.u64.wrap (rd bs (i : Int))) + 1) = ((((c + b) % 18446744073709551616 + 1) % 18446744073709551616 : Nat) : Int) := by
      rw [hbn, wrap_nat b (by omega), IntKind.wrap_u64, IntKind.wrap_u64]
      omega
    have hm : (((c + b) % 18446744073709551616 + 1) % 18446744073709551616) < 18446744073709551616 := Nat.mod_lt _ (by decide)
    obtain ⟨j1, j2⟩ := ih (Spec.mixN (((c + b) % 18446744073709551616 + 1) % 18446744073709551616)) (i + 1) (by omega) (Spec.mixN_lt _)
    rw [sum_Digest.l0, if_pos (by omega), if_pos (by omega), if_pos (by omega), horariumref04_Digest.l0, if_pos (by omega), if_pos (by omega), hx, mix_eq _ hm, rmix_eq _ hm,
      wrap_succ (n := bs.length) (by omega) hn, Option.bind_some, Option.bind_some, j1, j2, drop_cons (l := bs) (i := i) (by omega)]
    have : Spec.digestN c (rd bs (i : Int) :: bs.drop (i + 1)) = Spec.digestN (Spec.mixN (((c + b) % 18446744073709551616 + 1) % 18446744073709551616)) (bs.drop (i + 1)) := by
      unfold Spec.digestN
      rw [List.foldl_cons, hbn, Int.toNat_natCast]
    rw [this]
    exact ⟨rfl, rfl⟩
theorem digest_eq (k : Nat) (bs : List Int) (hb : Bytes bs) (hn : bs.length ≤ 140737488351232) (hk : bs.length + 1 ≤ k) :
    sum_Digest.f k bs = some (Spec.digestN bs.length bs : Int) ∧ horariumref04_Digest.f k bs = some (Spec.digestN bs.length bs : Int) := by
  obtain ⟨h1, h2⟩ := digest_l0 bs hb hn bs.length bs.length 0 (by omega) (by omega)
  refine ⟨at_rounds (sum_Digest.mono _) hk ?_, at_rounds (horariumref04_Digest.mono _) hk ?_⟩
  · unfold sum_Digest.f
    rw [wrap_nat _ (by omega)]
    exact h1
  · unfold horariumref04_Digest.f
    rw [wrap_nat _ (by omega)]
    exact h2

end Go.Proofs.Ytccjdefhieilpaa.Pure
