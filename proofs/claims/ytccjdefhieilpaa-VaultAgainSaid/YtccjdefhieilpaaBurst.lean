/-
  A burst of at most 32 turned bits is found by the checksum: plain numbers, no program in it.
  The register over a text is what 'steps' makes of the text as one number (regN_num); steps are linear; they turn no number below 2^32 but 0 into 0.
-/
import Derived.Test.YtccjdefhieilpaaCrc
namespace Go.Proofs.Ytccjdefhieilpaa.Spec

theorem xor_join (i x y : Nat) (hx : x % 2 ^ i = 0) (hy : y < 2 ^ i) : x ^^^ y = x + y := by
  have h1 : (x ^^^ y) % 2 ^ i = y := by rw [Nat.xor_mod_two_pow, hx, Nat.zero_xor, Nat.mod_eq_of_lt hy]
  have h2 : (x ^^^ y) / 2 ^ i = x / 2 ^ i := by rw [Nat.xor_div_two_pow, Nat.div_eq_of_lt hy, Nat.xor_zero]
  have h3 := Nat.div_add_mod (x ^^^ y) (2 ^ i)
  have h4 := Nat.div_add_mod x (2 ^ i)
  rw [h1, h2] at h3
  rw [hx] at h4
  omega

theorem xor_mod2 (a b : Nat) : (a ^^^ b) % 2 = (a % 2) ^^^ (b % 2) := Nat.xor_mod_two_pow (n := 1)
theorem xor_div2 (a b : Nat) : (a ^^^ b) / 2 = a / 2 ^^^ b / 2 := Nat.xor_div_two_pow (n := 1)
theorem stepN_xor (a b : Nat) : stepN (a ^^^ b) = stepN a ^^^ stepN b := by
  unfold stepN
  rw [xor_mod2, xor_div2]
  generalize a / 2 = x
  generalize b / 2 = y
  rcases Nat.mod_two_eq_zero_or_one a with ha | ha <;> rcases Nat.mod_two_eq_zero_or_one b with hb | hb <;> rw [ha, hb]
  · rw [if_neg (by decide), if_neg (by decide), if_neg (by decide)]
  · rw [if_pos (by decide), if_neg (by decide), if_pos rfl, Nat.xor_assoc]
  · rw [if_pos (by decide), if_pos rfl, if_neg (by decide), Nat.xor_assoc, Nat.xor_comm y, Nat.xor_assoc]
  · rw [if_neg (by decide), if_pos rfl, if_pos rfl, Nat.xor_assoc, Nat.xor_comm 3988292384, Nat.xor_assoc y, Nat.xor_self, Nat.xor_zero]
theorem steps_xor : ∀ (n a b : Nat), steps n (a ^^^ b) = steps n a ^^^ steps n b
  | 0, _, _ => rfl
  | n + 1, a, b => by
    show steps n (stepN (a ^^^ b)) = steps n (stepN a) ^^^ steps n (stepN b)
    rw [stepN_xor, steps_xor n]
theorem steps_add : ∀ (m n c : Nat), steps (m + n) c = steps n (steps m c)
  | 0, n, c => by rw [Nat.zero_add]; rfl
  | m + 1, n, c => by
    rw [show m + 1 + n = (m + n) + 1 from by omega]
    exact steps_add m n (stepN c)
theorem steps_up : ∀ (k a : Nat), steps k (a * 2 ^ k) = a
  | 0, a => by rw [Nat.pow_zero, Nat.mul_one]; rfl
  | k + 1, a => by
    have h : stepN (a * 2 ^ (k + 1)) = a * 2 ^ k := by
      have e : a * 2 ^ (k + 1) = 2 * (a * 2 ^ k) := by rw [Nat.pow_succ, ← Nat.mul_assoc, Nat.mul_comm]
      unfold stepN
      rw [e, if_neg (by omega)]
      omega
    show steps k (stepN (a * 2 ^ (k + 1))) = a
    rw [h]
    exact steps_up k a
theorem stepN_zero {c : Nat} (h : c < 4294967296) (h0 : stepN c = 0) : c = 0 := by
  unfold stepN at h0
  split at h0
  · exfalso
    have : c / 2 = 3988292384 := by
      have h1 := congrArg (· ^^^ 3988292384) h0
      simp only [xor_xor_same, Nat.zero_xor] at h1
      exact h1
    omega
  · omega
theorem steps_zero : ∀ (n : Nat) {c : Nat}, c < 4294967296 → steps n c = 0 → c = 0
  | 0, _, _, h => h
  | n + 1, _, h, h0 => stepN_zero h (steps_zero n (stepN_lt h) h0)

/-- A text as one number, its first byte the least. -/
def num : List Int → Nat
  | [] => 0
  | b :: bs => b.toNat + 256 * num bs
theorem regN_num : ∀ (z : List Int) (c : Nat), (∀ x ∈ z, 0 ≤ x ∧ x < 256) → regN c z = steps (8 * z.length) (c ^^^ num z)
  | [], c, _ => by
    show c = steps 0 (c ^^^ 0)
    rw [Nat.xor_zero]; rfl
  | b :: z, c, h => by
    have hb := h b (List.mem_cons_self ..)
    have e : num (b :: z) = num z * 2 ^ 8 ^^^ b.toNat := by
      rw [xor_join 8 _ _ (by simp) (by omega)]
      show b.toNat + 256 * num z = num z * 256 + b.toNat
      omega
    show regN (byteN c b) z = _
    rw [regN_num z _ (fun x hx => h x (List.mem_cons_of_mem _ hx)), e, List.length_cons, show 8 * (z.length + 1) = 8 + 8 * z.length from by omega, steps_add]
    congr 1
    rw [steps_xor, steps_xor, steps_up]
    unfold byteN
    rw [steps_xor, Nat.xor_assoc, Nat.xor_comm (num z), ]
theorem num_inj : ∀ {a b : List Int}, (∀ x ∈ a, 0 ≤ x ∧ x < 256) → (∀ x ∈ b, 0 ≤ x ∧ x < 256) → a.length = b.length → num a = num b → a = b
  | [], [], _, _, _, _ => rfl
  | [], _ :: _, _, _, h, _ => by simp at h
  | _ :: _, [], _, _, h, _ => by simp at h
  | x :: a, y :: b, ha, hb, hl, h => by
    have hx := ha x (List.mem_cons_self ..)
    have hy := hb y (List.mem_cons_self ..)
    simp only [num] at h
    have e : x = y := by omega
    rw [e, num_inj (fun z hz => ha z (List.mem_cons_of_mem _ hz)) (fun z hz => hb z (List.mem_cons_of_mem _ hz)) (by simpa using hl) (by omega)]
theorem num_le4 (c : Nat) (h : c < 4294967296) : num [((c % 256 : Nat) : Int), ((c / 256 % 256 : Nat) : Int), ((c / 65536 % 256 : Nat) : Int), ((c / 16777216 % 256 : Nat) : Int)] = c := by
  simp only [num, Int.toNat_natCast]
  omega

/-- One byte with one bit turned. -/
theorem num_set : ∀ (z : List Int) (i j : Nat), (∀ x ∈ z, 0 ≤ x ∧ x < 256) → i < z.length → j < 8 → num (z.set i (((z.getD i 0).toNat ^^^ 2 ^ j : Nat) : Int)) = num z ^^^ 2 ^ (8 * i + j)
  | [], _, _, _, h, _ => by simp at h
  | b :: z, 0, j, h, _, hj => by
    have hb := h b (List.mem_cons_self ..)
    have h8 : (2 : Nat) ^ j < 2 ^ 8 := Nat.pow_lt_pow_right (by decide) hj
    have hx : b.toNat ^^^ 2 ^ j < 2 ^ 8 := Nat.xor_lt_two_pow (by omega) h8
    show (((b.toNat ^^^ 2 ^ j : Nat) : Int)).toNat + 256 * num z = (b.toNat + 256 * num z) ^^^ 2 ^ (8 * 0 + j)
    have e : b.toNat + 256 * num z = num z * 2 ^ 8 ^^^ b.toNat := by
      rw [xor_join 8 _ _ (by simp) (by omega)]
      omega
    rw [Int.toNat_natCast, e, Nat.mul_zero, Nat.zero_add, Nat.xor_assoc, xor_join 8 _ _ (by simp) hx]
    omega
  | b :: z, i + 1, j, h, hi, hj => by
    have hb := h b (List.mem_cons_self ..)
    have ih := num_set z i j (fun x hx => h x (List.mem_cons_of_mem _ hx)) (by simpa using hi) hj
    show b.toNat + 256 * num (z.set i ((((z.getD i 0)).toNat ^^^ 2 ^ j : Nat) : Int)) = (b.toNat + 256 * num z) ^^^ 2 ^ (8 * (i + 1) + j)
    rw [ih]
    have e (m : Nat) : b.toNat + 256 * m = m * 2 ^ 8 ^^^ b.toNat := by
      rw [xor_join 8 _ _ (by simp) (by omega)]
      omega
    have e2 : (2 : Nat) ^ (8 * (i + 1) + j) = 2 ^ (8 * i + j) * 2 ^ 8 := by rw [← Nat.pow_add]; congr 1; omega
    have e3 (m n : Nat) : (m ^^^ n) * 2 ^ 8 = m * 2 ^ 8 ^^^ n * 2 ^ 8 := by rw [← Nat.shiftLeft_eq, ← Nat.shiftLeft_eq, ← Nat.shiftLeft_eq, Nat.shiftLeft_xor_distrib]
    rw [e, e, e2, e3, Nat.xor_assoc, Nat.xor_comm (2 ^ (8 * i + j) * 2 ^ 8), ← Nat.xor_assoc]

theorem bit_up (t i s : Nat) (_h : t / 2 ^ i % 2 = 1) : t % 2 ^ (i + 1) * 2 ^ s = (t % 2 ^ i * 2 ^ s) ^^^ 2 ^ (s + i) := by
  have h1 : t % 2 ^ (i + 1) = t % 2 ^ i + 2 ^ i := by
    rw [Nat.mod_pow_succ, _h, Nat.mul_one]
  have h2 : t % 2 ^ i * 2 ^ s < 2 ^ (s + i) := by
    rw [Nat.pow_add, Nat.mul_comm (2 ^ s)]
    exact Nat.mul_lt_mul_of_pos_right (Nat.mod_lt _ (Nat.pow_pos (by decide))) (Nat.pow_pos (by decide))
  rw [Nat.xor_comm, xor_join (s + i) _ _ (Nat.mod_self _) h2, h1, Nat.add_mul, ← Nat.pow_add, Nat.add_comm i s]
  omega
theorem bit_stays (t i : Nat) (h : t / 2 ^ i % 2 = 0) : t % 2 ^ (i + 1) = t % 2 ^ i := by
  rw [Nat.mod_pow_succ, h, Nat.mul_zero, Nat.add_zero]

/-- What every sealed text leaves in the register. -/
theorem residue (b : List Int) (hb : ∀ x ∈ b, 0 ≤ x ∧ x < 256) (f : List Int) (hf : f = [((crcN b % 256 : Nat) : Int), ((crcN b / 256 % 256 : Nat) : Int), ((crcN b / 65536 % 256 : Nat) : Int), ((crcN b / 16777216 % 256 : Nat) : Int)]) :
    regN 4294967295 (b ++ f) = steps 32 4294967295 := by
  have hc : crcN b < 4294967296 := moreN_lt (by decide) hb
  have hf' : ∀ x ∈ f, 0 ≤ x ∧ x < 256 := by
    intro x hx
    rw [hf] at hx
    simp only [List.mem_cons, List.not_mem_nil, or_false] at hx
    rcases hx with rfl | rfl | rfl | rfl <;> omega
  have hn : num f = crcN b := by rw [hf]; exact num_le4 _ hc
  have hl : f.length = 4 := by rw [hf]; rfl
  rw [regN_append, regN_num f _ hf', hn, hl]
  have e : crcN b = regN 4294967295 b ^^^ 4294967295 := by
    unfold crcN moreN
    rw [Nat.zero_xor]
  rw [e, ← Nat.xor_assoc, Nat.xor_self, Nat.zero_xor]

/-- Two texts of one residue that part by a burst are one. -/
theorem burst_none (x y : List Int) (hx : ∀ v ∈ x, 0 ≤ v ∧ v < 256) (hy : ∀ v ∈ y, 0 ≤ v ∧ v < 256) (hl : y.length = x.length) (t s : Nat) (ht : t < 4294967296) (hs : s ≤ 8 * x.length)
    (hn : num y = num x ^^^ t * 2 ^ s) (hr : regN 4294967295 x = regN 4294967295 y) : y = x := by
  rw [regN_num x _ hx, regN_num y _ hy, hl, hn, ← Nat.xor_assoc] at hr
  generalize 4294967295 ^^^ num x = A at hr
  rw [steps_xor] at hr
  have h0 : steps (8 * x.length) (t * 2 ^ s) = 0 := by
    have h1 := congrArg (steps (8 * x.length) A ^^^ ·) hr
    simp only [Nat.xor_self, ← Nat.xor_assoc, Nat.zero_xor] at h1
    exact h1.symm
  obtain ⟨m, hm⟩ : ∃ m, 8 * x.length = s + m := ⟨8 * x.length - s, by omega⟩
  rw [hm, steps_add, steps_up] at h0
  have ht0 := steps_zero m ht h0
  rw [ht0, Nat.zero_mul, Nat.xor_zero] at hn
  exact num_inj hy hx hl hn

end Go.Proofs.Ytccjdefhieilpaa.Spec
