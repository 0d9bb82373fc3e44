/-
 What the law VaultPlays needs of SealSlim (what it does not use is left out by a program of this session, wip/tools/dce.py).
-/
import Derived.Test.YtccjdefhieilpaaRSumSlim
namespace Go.Proofs.Ytccjdefhieilpaa.Spec
def le4 (c : Nat) : List Int := [((c % 256 : Nat) : Int), ((c / 256 % 256 : Nat) : Int), ((c / 65536 % 256 : Nat) : Int), ((c / 16777216 % 256 : Nat) : Int)]
def sealL (bs : List Int) : List Int := bs ++ le4 (crcN bs)
def openL (bs : List Int) : List Int × Int :=
 if bs.length < 4 then ([], 4) else
  if bs.drop (bs.length - 4) = le4 (crcN (bs.take (bs.length - 4))) then (bs.take (bs.length - 4), 0) else ([], 27)
end Go.Proofs.Ytccjdefhieilpaa.Spec
namespace Go.Proofs.Ytccjdefhieilpaa.Pure
open Go.RowKit Go.Proofs.Ytccjdefhieilpaa.PB Go.Proofs.YtccjdefhieilpaaW.PrintWords Go.Proofs.YtccjdefhieilpaaW.PrintLast Go.Proofs.YtccjdefhieilpaaW.PrintMore
theorem le4_bytes (c : Nat) : Bytes (Spec.le4 c) := fun x hx => by
 simp only [Spec.le4, List.mem_cons, List.not_mem_nil, or_false] at hx
 rcases hx with rfl | rfl | rfl | rfl <;> omega
theorem sealL_bytes {bs : List Int} (h : Bytes bs) : Bytes (Spec.sealL bs) := h.append (le4_bytes _)
theorem sealL_length (bs : List Int) : (Spec.sealL bs).length = bs.length + 4 := by simp [Spec.sealL, Spec.le4]
theorem open_seal (bs : List Int) : Spec.openL (Spec.sealL bs) = (bs, 0) := by
 unfold Spec.openL
 rw [sealL_length, if_neg (by omega), show bs.length + 4 - 4 = bs.length from by omega]
 have h1 : (Spec.sealL bs).take bs.length = bs := by unfold Spec.sealL; exact List.take_left ..
 have h2 : (Spec.sealL bs).drop bs.length = Spec.le4 (Spec.crcN bs) := by unfold Spec.sealL; exact List.drop_left ..
 rw [h1, h2, if_pos rfl]
theorem map_inj_bytes : ∀ {a b : List Int}, Bytes a → Bytes b → (a.map fun n => UInt8.ofNat n.toNat) = (b.map fun n => UInt8.ofNat n.toNat) → a = b
 | [], [], _, _, _ => rfl
 | [], _ :: _, _, _, h => by simp at h
 | _ :: _, [], _, _, h => by simp at h
 | x :: a, y :: b, ha, hb, h => by
  simp only [List.map_cons, List.cons.injEq] at h
  have hx := ha x (List.mem_cons_self ..)
  have hy := hb y (List.mem_cons_self ..)
  have he := congrArg UInt8.toNat h.1
  simp only [UInt8.toNat_ofNat'] at he
  have : x = y := by omega
  rw [this, map_inj_bytes (fun z hz => ha z (List.mem_cons_of_mem _ hz)) (fun z hz => hb z (List.mem_cons_of_mem _ hz)) h.2]
theorem str_inj {a b : List Int} (ha : Bytes a) (hb : Bytes b) (h : (strOfNums a).toList = (strOfNums b).toList) : a = b := by
 rw [ByteArray.toList_eq, ByteArray.toList_eq, strOfNums_data, strOfNums_data] at h
 exact map_inj_bytes ha hb h
theorem seal_eq (k : Nat) (bs : List Int) (hb : Bytes bs) (hn : bs.length ≤ 140737488351232) (hk : 10 * bs.length + 1 ≤ k) :
  sum_Seal.f k bs = some (Spec.sealL bs) := by
 unfold sum_Seal.f
 rw [crc_eq k bs hb hn hk]
 simp only [Option.bind_some, List.length_nil, Nat.zero_add, List.nil_append]
 rw [if_pos (by omega), if_pos (by simp; omega)]
 unfold Spec.sealL Spec.le4
 simp only [Option.some.injEq, List.append_cancel_left_eq, List.cons.injEq, and_true]
 refine ⟨?_, ?_, ?_, ?_⟩ <;> omega
theorem rseal_l0 (k c : Nat) (l : List Int) (hc : c < 4294967296) (hl : l.length + 4 ≤ 140737488355328) :
  horariumref04_Seal.l0 (k + 5) l (c : Int) 0 = some (l ++ Spec.le4 c) := by
 have t (d : Nat) : Int.tmod (d : Int) 256 % 256 = ((d % 256 : Nat) : Int) := by rw [Int.tmod_eq_emod_of_nonneg (by omega)]; omega
 have q (d : Nat) (h : d < 4294967296) : Int.tdiv (d : Int) 256 % 4294967296 = ((d / 256 : Nat) : Int) := by rw [Int.tdiv_eq_ediv_of_nonneg (by omega)]; omega
 rw [horariumref04_Seal.l0, if_pos (by decide), if_pos (by omega), t, q _ hc, show wrap64 (0 + 1) = 1 from by decide +kernel,
  horariumref04_Seal.l0, if_pos (by decide), if_pos (by simp; omega), t, q _ (by omega), show wrap64 (1 + 1) = 2 from by decide +kernel,
  horariumref04_Seal.l0, if_pos (by decide), if_pos (by simp; omega), t, q _ (by omega), show wrap64 (2 + 1) = 3 from by decide +kernel,
  horariumref04_Seal.l0, if_pos (by decide), if_pos (by simp; omega), t, q _ (by omega), show wrap64 (3 + 1) = 4 from by decide +kernel,
  horariumref04_Seal.l0, if_neg (by decide)]
 unfold Spec.le4
 simp only [List.append_assoc, List.cons_append, List.nil_append, Nat.div_div_eq_div_mul]
theorem rseal_eq (k : Nat) (bs : List Int) (hb : Bytes bs) (hn : bs.length ≤ 140737488351232) (hk : 10 * bs.length + 5 ≤ k) :
  horariumref04_Seal.f k bs = some (Spec.sealL bs) := by
 obtain ⟨k, rfl⟩ : ∃ m, k = m + 5 := ⟨k - 5, by omega⟩
 unfold horariumref04_Seal.f
 rw [rcrc_eq (k + 5) bs hb hn (by omega)]
 simp only [Option.bind_some, List.length_nil, Nat.zero_add, List.nil_append]
 rw [if_pos (by omega)]
 exact rseal_l0 k _ bs (Spec.moreN_lt (by decide) hb) (by omega)
theorem or32 (a b j : Nat) (ha : a < 2 ^ (8 * j)) (hb : b < 256) (hj : j < 4) :
  bits .or .u32 (a : Int) (shl .u32 ((b : Int) % 4294967296) (wrap64 (8 * (j : Int)))) = ((a + b * 2 ^ (8 * j) : Nat) : Int) ∧ a + b * 2 ^ (8 * j) < 2 ^ (8 * (j + 1)) := by
 have hlt : a + b * 2 ^ (8 * j) < 256 * 2 ^ (8 * j) := by
  have : (b + 1) * 2 ^ (8 * j) ≤ 256 * 2 ^ (8 * j) := Nat.mul_le_mul_right _ (by omega)
  rw [Nat.add_mul, Nat.one_mul] at this
  omega
 have hp : (2 : Nat) ^ (8 * (j + 1)) = 256 * 2 ^ (8 * j) := by rw [Nat.mul_add, Nat.pow_add, Nat.mul_comm]
 have h32 : (256 : Nat) * 2 ^ (8 * j) ≤ 4294967296 := by
  rw [← hp]
  have : (2 : Nat) ^ (8 * (j + 1)) ≤ 2 ^ 32 := Nat.pow_le_pow_right (by decide) (by omega)
  simpa using this
 refine ⟨?_, by omega⟩
 have hw : wrap64 (8 * (j : Int)) = ((8 * j : Nat) : Int) := by unfold wrap64; omega
 have hs : shl .u32 ((b : Int) % 4294967296) (wrap64 (8 * (j : Int))) = ((b * 2 ^ (8 * j) : Nat) : Int) := by
  unfold shl
  rw [hw, Int.toNat_natCast, show IntKind.u32.bits = 32 from rfl, Nat.min_eq_left (by omega), show ((b : Int) % 4294967296) = (b : Int) from by omega, IntKind.wrap_u32]
  have : ((b : Int) * 2 ^ (8 * j)) = ((b * 2 ^ (8 * j) : Nat) : Int) := by rw [Int.natCast_mul, Int.natCast_pow]; rfl
  rw [this]
  omega
 rw [hs, u32_or_nat a _ (by omega) (by omega), Nat.or_comm, nat_join (8 * j) _ _ (by simp) ha, Nat.add_comm]
theorem open_loop (k : Nat) (bs : List Int) (n : Nat) (b0 b1 b2 b3 : Nat) (h0 : rd bs (n : Int) = (b0 : Int)) (h1 : rd bs ((n + 1 : Nat) : Int) = (b1 : Int)) (h2 : rd bs ((n + 2 : Nat) : Int) = (b2 : Int)) (h3 : rd bs ((n + 3 : Nat) : Int) = (b3 : Int))
  (c0 : b0 < 256) (c1 : b1 < 256) (c2 : b2 < 256) (c3 : b3 < 256) (hl : bs.length = n + 4) (hn : bs.length ≤ 140737488351232) :
  sum_Open.l0 (k + 4) bs (n : Int) 0 0 = sum_Open.l0 k bs (n : Int) ((b0 + b1 * 256 + b2 * 65536 + b3 * 16777216 : Nat) : Int) 4 := by
 have w (i : Nat) (hi : i < 4) : wrap64 ((n : Int) + (i : Int)) = ((n + i : Nat) : Int) := by unfold wrap64; omega
 have w8 (i : Nat) (hi : i < 4) : 0 ≤ wrap64 (8 * (i : Int)) := by unfold wrap64; omega
 obtain ⟨e0, l0⟩ := or32 0 b0 0 (by decide) c0 (by decide)
 obtain ⟨e1, l1⟩ := or32 _ b1 1 l0 c1 (by decide)
 obtain ⟨e2, l2⟩ := or32 _ b2 2 l1 c2 (by decide)
 obtain ⟨e3, l3⟩ := or32 _ b3 3 l2 c3 (by decide)
 have step (m i x : Nat) (y : Nat) (b : Nat) (hi : i < 4) (hb : rd bs ((n + i : Nat) : Int) = (b : Int)) (he : bits .or .u32 (x : Int) (shl .u32 ((b : Int) % 4294967296) (wrap64 (8 * (i : Int)))) = (y : Int)) :
   sum_Open.l0 (m + 1) bs (n : Int) (x : Int) (i : Int) = sum_Open.l0 m bs (n : Int) (y : Int) ((i + 1 : Nat) : Int) := by
  rw [sum_Open.l0, if_pos (by omega), w i hi, if_pos (by omega), if_pos (by omega), if_pos (w8 i hi), hb, he, wrap_succ (n := 8) (by omega) (by omega)]
 have s0 := step (k + 3) 0 0 _ b0 (by decide) h0 e0
 have s1 := step (k + 2) 1 _ _ b1 (by decide) h1 e1
 have s2 := step (k + 1) 2 _ _ b2 (by decide) h2 e2
 have s3 := step k 3 _ _ b3 (by decide) h3 e3
 have hv : (0 + b0 * 2 ^ (8 * 0) + b1 * 2 ^ (8 * 1) + b2 * 2 ^ (8 * 2) + b3 * 2 ^ (8 * 3)) = b0 + b1 * 256 + b2 * 65536 + b3 * 16777216 := by
  simp
 rw [hv] at s3
 exact s0.trans (s1.trans (s2.trans s3))
theorem le4_iff (c b0 b1 b2 b3 : Nat) (c0 : b0 < 256) (c1 : b1 < 256) (c2 : b2 < 256) (c3 : b3 < 256) (hc : c < 4294967296) :
  [(b0 : Int), (b1 : Int), (b2 : Int), (b3 : Int)] = Spec.le4 c ↔ c = b0 + b1 * 256 + b2 * 65536 + b3 * 16777216 := by
 unfold Spec.le4
 simp only [List.cons.injEq, and_true]
 constructor
 ·rintro ⟨h0, h1, h2, h3⟩
  omega
 ·intro h
  refine ⟨?_, ?_, ?_, ?_⟩ <;> omega
theorem open_eq (k : Nat) (bs : List Int) (hb : Bytes bs) (hn : bs.length ≤ 140737488351232) (hk : 10 * bs.length + 10 ≤ k) :
  sum_Open.f k bs = some (Spec.openL bs) := by
 unfold sum_Open.f Spec.openL
 by_cases h4 : bs.length < 4
 ·rw [if_pos (by unfold wrap64; omega), if_pos h4]
 ·rw [if_neg (by unfold wrap64; omega), if_neg h4]
  obtain ⟨n, hl⟩ : ∃ n, bs.length = n + 4 := ⟨bs.length - 4, by omega⟩
  have hw : wrap64 ((bs.length : Int) - 4) = (n : Int) := by unfold wrap64; omega
  rw [hw, show bs.length - 4 = n from by omega]
  obtain ⟨b0, e0⟩ := Int.eq_ofNat_of_zero_le (hb.at n).1
  obtain ⟨b1, e1⟩ := Int.eq_ofNat_of_zero_le (hb.at (n + 1)).1
  obtain ⟨b2, e2⟩ := Int.eq_ofNat_of_zero_le (hb.at (n + 2)).1
  obtain ⟨b3, e3⟩ := Int.eq_ofNat_of_zero_le (hb.at (n + 3)).1
  have g0 := (hb.at n).2
  have g1 := (hb.at (n + 1)).2
  have g2 := (hb.at (n + 2)).2
  have g3 := (hb.at (n + 3)).2
  rw [e0] at g0
  rw [e1] at g1
  rw [e2] at g2
  rw [e3] at g3
  obtain ⟨k, rfl⟩ : ∃ m, k = m + 1 + 4 := ⟨k - 5, by omega⟩
  rw [open_loop (k + 1) bs n b0 b1 b2 b3 e0 e1 e2 e3 (by omega) (by omega) (by omega) (by omega) hl hn, sum_Open.l0, if_neg (by decide), if_pos (by omega), if_pos (by omega), Int.toNat_natCast]
  have ht : (bs.take n).length = n := by rw [List.length_take]; omega
  rw [crc_eq k (bs.take n) (hb.take n) (by omega) (by omega)]
  have hd : bs.drop n = [(b0 : Int), (b1 : Int), (b2 : Int), (b3 : Int)] := by
   rw [drop_cons (by omega), drop_cons (by omega), drop_cons (by omega), drop_cons (by omega), List.drop_eq_nil_of_le (by omega), e0, e1, e2, e3]
  have hiff := le4_iff (Spec.crcN (bs.take n)) b0 b1 b2 b3 (by omega) (by omega) (by omega) (by omega) (Spec.moreN_lt (by decide) (hb.take n))
  rw [hd]
  simp only [Option.bind_some, List.length_nil, Nat.zero_add, List.nil_append]
  by_cases hc : Spec.crcN (bs.take n) = b0 + b1 * 256 + b2 * 65536 + b3 * 16777216
  ·rw [if_pos (by rw [hc]), if_pos (by omega), if_pos (hiff.2 hc)]
  ·rw [if_neg (by omega), if_neg (fun h => hc (hiff.1 h))]
theorem ropen_eq (k : Nat) (bs : List Int) (hb : Bytes bs) (hn : bs.length ≤ 140737488351232) (hk : 10 * bs.length + 10 ≤ k) :
  horariumref04_Open.f k bs = some (Spec.openL bs) := by
 unfold horariumref04_Open.f Spec.openL
 by_cases h4 : bs.length < 4
 ·rw [if_pos (by omega), if_pos h4]
 ·rw [if_neg (by omega), if_neg h4]
  obtain ⟨n, hl⟩ : ∃ n, bs.length = n + 4 := ⟨bs.length - 4, by omega⟩
  have hw : wrap64 ((bs.length : Int) - 4) = (n : Int) := by unfold wrap64; omega
  have ht : (bs.take n).length = n := by rw [List.length_take]; omega
  rw [hw, show bs.length - 4 = n from by omega, Int.toNat_natCast]
  simp only [Option.bind_some, List.length_nil, Nat.zero_add, List.nil_append]
  rw [if_pos (by omega), if_pos (by omega), if_pos (by omega), rseal_eq k (bs.take n) (hb.take n) (by omega) (by omega)]
  simp only [Option.bind_some]
  have hiff : Spec.sealL (bs.take n) = bs ↔ bs.drop n = Spec.le4 (Spec.crcN (bs.take n)) := by
   unfold Spec.sealL
   constructor
   ·intro h
    have h2 : (bs.take n ++ Spec.le4 (Spec.crcN (bs.take n))).drop n = bs.drop n := by rw [h]
    rw [← h2]
    have h3 : (bs.take n ++ Spec.le4 (Spec.crcN (bs.take n))).drop (bs.take n).length = _ := List.drop_left
    rw [ht] at h3
    exact h3
   ·intro h
    rw [← h, List.take_append_drop]
  by_cases hc : Spec.sealL (bs.take n) = bs
  ·rw [hc, if_pos rfl, if_pos (hiff.1 hc)]
  ·rw [if_neg (fun h => hc (str_inj (sealL_bytes (hb.take n)) hb h)), if_neg (fun h => hc (hiff.2 h))]
end Go.Proofs.Ytccjdefhieilpaa.Pure
