/-
 What the law VaultPlays needs of SumSlim (what it does not use is left out by a program of this session, wip/tools/dce.py).
-/
import Derived.Test.YtccjdefhieilpaaRPCx1
import Derived.Test.YtccjdefhieilpaaRCrc
namespace Go.Proofs.Ytccjdefhieilpaa.Pure
open Go.RowKit Go.Proofs.Ytccjdefhieilpaa.PB Go.Proofs.YtccjdefhieilpaaW.PrintWords Go.Proofs.YtccjdefhieilpaaW.PrintLast
def Bytes (l : List Int) : Prop := ∀ x ∈ l, 0 ≤ x ∧ x < 256
theorem bytes_of_wf {l : List Int} (h : ∀ x ∈ l, (Lit.int .u8 x).wf = true) : Bytes l := fun x hx => by
 have := h x hx
 simp [Lit.wf, IntKind.min, IntKind.max, IntKind.signed, IntKind.bits] at this
 omega
theorem Bytes.append {a b : List Int} (ha : Bytes a) (hb : Bytes b) : Bytes (a ++ b) := fun x hx => (List.mem_append.1 hx).elim (ha x) (hb x)
theorem Bytes.take {a : List Int} (ha : Bytes a) (n : Nat) : Bytes (a.take n) := fun x hx => ha x (List.mem_of_mem_take hx)
theorem Bytes.drop {a : List Int} (ha : Bytes a) (n : Nat) : Bytes (a.drop n) := fun x hx => ha x (List.mem_of_mem_drop hx)
theorem Bytes.nil : Bytes [] := fun x hx => by cases hx
theorem Bytes.at {l : List Int} (h : Bytes l) (i : Nat) : 0 ≤ rd l (i : Int) ∧ rd l (i : Int) < 256 := by
 unfold rd
 rw [Int.toNat_natCast, List.getD_eq_getElem?_getD]
 rcases Nat.lt_or_ge i l.length with hi | hi
 ·rw [List.getElem?_eq_getElem hi]
  exact h _ (List.getElem_mem hi)
 ·rw [List.getElem?_eq_none hi]
  simp
theorem drop_cons {l : List Int} {i : Nat} (h : i < l.length) : l.drop i = rd l (i : Int) :: l.drop (i + 1) := by
 rw [List.drop_eq_getElem_cons h]
 simp [rd, List.getD_eq_getElem?_getD, List.getElem?_eq_getElem h]
theorem wrap_succ {i n : Nat} (h : i < n) (hn : n ≤ 140737488351232) : wrap64 ((i : Int) + 1) = ((i + 1 : Nat) : Int) := by
 unfold wrap64
 omega
theorem more_l1 (m : Nat) : ∀ (k c : Nat) (j : Nat) (x10 : List Int) (x11 x12 : Int), j + m = 8 → c < 4294967296 →
  sum_More.l1 (k + m + 1) (c : Int) x10 x11 x12 (j : Int) = sum_More.l0 k (Spec.steps m c : Int) x10 x11 (wrap64 (x12 + 1)) := by
 induction m with
 | zero =>
  intro k c j x10 x11 x12 hj hc
  obtain rfl : j = 8 := by omega
  rw [sum_More.l1, if_neg (by decide)]
  rfl
 | succ m ih =>
  intro k c j x10 x11 x12 hj hc
  rw [show k + (m + 1) + 1 = (k + m + 1) + 1 from rfl, sum_More.l1, if_pos (by omega), Spec.step_prog c hc,
   show wrap64 ((j : Int) + 1) = ((j + 1 : Nat) : Int) from wrap_succ (n := 8) (by omega) (by omega),
   ih k (Spec.stepN c) (j + 1) x10 x11 x12 (by omega) (Spec.stepN_lt hc)]
  rfl
theorem more_l0 (bs : List Int) (hb : Bytes bs) (hn : bs.length ≤ 140737488351232) (d : Nat) : ∀ (c i : Nat), i + d = bs.length → c < 4294967296 →
  sum_More.l0 (10 * d + 1) (c : Int) bs (bs.length : Int) (i : Int) = some ((Spec.regN c (bs.drop i) ^^^ 4294967295 : Nat) : Int) := by
 induction d with
 | zero =>
  intro c i hi hc
  rw [sum_More.l0, if_neg (by omega), List.drop_eq_nil_of_le (by omega)]
  have := u32_xor_nat 4294967295 c (by decide) hc
  rw [Nat.xor_comm] at this
  exact congrArg some this
 | succ d ih =>
  intro c i hi hc
  obtain ⟨h0, h1⟩ := hb.at i
  obtain ⟨b, hbn⟩ := Int.eq_ofNat_of_zero_le h0
  have hx : bits .xor .u32 (c : Int) (rd bs (i : Int) % 4294967296) = ((c ^^^ b : Nat) : Int) := by
   rw [hbn, show ((b : Int) % 4294967296) = (b : Int) from by omega]
   exact u32_xor_nat c b hc (by omega)
  rw [show 10 * (d + 1) + 1 = (10 * d + 1 + 8 + 1) + 1 from by omega, sum_More.l0, if_pos (by omega), if_pos (by omega), if_pos (by omega), hx,
   show (0 : Int) = ((0 : Nat) : Int) from rfl, more_l1 8 (10 * d + 1) (c ^^^ b) 0 bs _ _ rfl (Spec.xor_lt32 hc (by omega)),
   wrap_succ (n := bs.length) (by omega) hn, ih _ (i + 1) (by omega) (Spec.steps_lt 8 (Spec.xor_lt32 hc (by omega))), drop_cons (l := bs) (i := i) (by omega)]
  unfold Spec.regN
  rw [List.foldl_cons, hbn]
  rfl
theorem more_eq (k : Nat) (s : Nat) (bs : List Int) (hb : Bytes bs) (hn : bs.length ≤ 140737488351232) (hs : s < 4294967296) (hk : 10 * bs.length + 1 ≤ k) :
  sum_More.f k (s : Int) bs = some (Spec.moreN s bs : Int) := by
 refine at_rounds (sum_More.mono _ _) hk ?_
 unfold sum_More.f
 have hx : bits .xor .u32 4294967295 (s : Int) = ((s ^^^ 4294967295 : Nat) : Int) := by
  have := u32_xor_nat 4294967295 s (by decide) hs
  rw [Nat.xor_comm] at this
  exact this
 rw [hx]
 have := more_l0 bs hb hn bs.length (s ^^^ 4294967295) 0 (by omega) (Spec.xor_lt32 hs (by decide))
 exact this
theorem crc_eq (k : Nat) (bs : List Int) (hb : Bytes bs) (hn : bs.length ≤ 140737488351232) (hk : 10 * bs.length + 1 ≤ k) :
  sum_Crc.f k bs = some (Spec.crcN bs : Int) := by
 unfold sum_Crc.f
 rw [show (0 : Int) = ((0 : Nat) : Int) from rfl, more_eq k 0 bs hb hn (by decide) hk]
 rfl
theorem rmore_l1 (m : Nat) : ∀ (k c : Nat) (j : Nat) (x1 : List Int) (x6 : Int), j + m = 8 → c < 4294967296 →
  horariumref04_More.l1 (k + m + 1) x1 (c : Int) x6 (j : Int) = horariumref04_More.l0 k x1 (Spec.steps m c : Int) (wrap64 (x6 + 1)) := by
 induction m with
 | zero =>
  intro k c j x1 x6 hj hc
  obtain rfl : j = 8 := by omega
  rw [horariumref04_More.l1, if_neg (by decide)]
  rfl
 | succ m ih =>
  intro k c j x1 x6 hj hc
  have hw : wrap64 ((j : Int) + 1) = ((j + 1 : Nat) : Int) := wrap_succ (n := 8) (by omega) (by omega)
  have hs := Spec.step_ref c hc
  have hi := ih k (Spec.stepN c) (j + 1) x1 x6 (by omega) (Spec.stepN_lt hc)
  rw [show k + (m + 1) + 1 = (k + m + 1) + 1 from rfl, horariumref04_More.l1, if_pos (by omega), hw]
  split at hs
  ·rename_i h
   rw [if_pos h, hs, hi]
   rfl
  ·rename_i h
   rw [if_neg h, hs, hi]
   rfl
theorem rmore_l0 (bs : List Int) (hb : Bytes bs) (hn : bs.length ≤ 140737488351232) (d : Nat) : ∀ (c i : Nat), i + d = bs.length → c < 4294967296 →
  horariumref04_More.l0 (10 * d + 1) bs (c : Int) (i : Int) = some ((Spec.regN c (bs.drop i) ^^^ 4294967295 : Nat) : Int) := by
 induction d with
 | zero =>
  intro c i hi hc
  rw [horariumref04_More.l0, if_neg (by omega), List.drop_eq_nil_of_le (by omega)]
  exact congrArg some (u32_xor_nat c 4294967295 hc (by decide))
 | succ d ih =>
  intro c i hi hc
  obtain ⟨h0, h1⟩ := hb.at i
  obtain ⟨b, hbn⟩ := Int.eq_ofNat_of_zero_le h0
  have hx : bits .xor .u32 (c : Int) (rd bs (i : Int) % 4294967296) = ((c ^^^ b : Nat) : Int) := by
   rw [hbn, show ((b : Int) % 4294967296) = (b : Int) from by omega]
   exact u32_xor_nat c b hc (by omega)
  rw [show 10 * (d + 1) + 1 = (10 * d + 1 + 8 + 1) + 1 from by omega, horariumref04_More.l0, if_pos (by omega), if_pos (by omega), hx,
   show (0 : Int) = ((0 : Nat) : Int) from rfl, rmore_l1 8 (10 * d + 1) (c ^^^ b) 0 bs _ rfl (Spec.xor_lt32 hc (by omega)),
   wrap_succ (n := bs.length) (by omega) hn, ih _ (i + 1) (by omega) (Spec.steps_lt 8 (Spec.xor_lt32 hc (by omega))), drop_cons (l := bs) (i := i) (by omega)]
  unfold Spec.regN
  rw [List.foldl_cons, hbn]
  rfl
theorem rmore_eq (k : Nat) (s : Nat) (bs : List Int) (hb : Bytes bs) (hn : bs.length ≤ 140737488351232) (hs : s < 4294967296) (hk : 10 * bs.length + 1 ≤ k) :
  horariumref04_More.f k (s : Int) bs = some (Spec.moreN s bs : Int) := by
 refine at_rounds (horariumref04_More.mono _ _) hk ?_
 unfold horariumref04_More.f
 rw [show bits .xor .u32 (s : Int) 4294967295 = ((s ^^^ 4294967295 : Nat) : Int) from u32_xor_nat s 4294967295 hs (by decide)]
 have := rmore_l0 bs hb hn bs.length (s ^^^ 4294967295) 0 (by omega) (Spec.xor_lt32 hs (by decide))
 exact this
theorem rcrc_eq (k : Nat) (bs : List Int) (hb : Bytes bs) (hn : bs.length ≤ 140737488351232) (hk : 10 * bs.length + 1 ≤ k) :
  horariumref04_Crc.f k bs = some (Spec.crcN bs : Int) := by
 unfold horariumref04_Crc.f
 rw [show (0 : Int) = ((0 : Nat) : Int) from rfl, rmore_eq k 0 bs hb hn (by decide) hk]
 rfl
end Go.Proofs.Ytccjdefhieilpaa.Pure
