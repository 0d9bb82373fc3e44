/-
  OctetOnce: encoding a decoded value yields exactly the bytes that were read, for every input of the statement.
-/
import Derived.Test.YtccjdefhieilpaaPBx15
import Derived.Test.YtccjdefhieilpaaReadPure
namespace Go.Proofs.Ytccjdefhieilpaa.Pure
open Go.RowKit Go.Proofs.Ytccjdefhieilpaa.PB Go.Proofs.YtccjdefhieilpaaW.PrintWords Go.Proofs.YtccjdefhieilpaaW.PrintLast

theorem seg_cons {b : List Int} {p q r : Nat} (h1 : p ≤ q) (h2 : q ≤ r) (_h3 : r ≤ b.length) : (b.take r).drop p = (b.drop p).take (q - p) ++ (b.take r).drop q := by
  rw [List.drop_take, List.drop_take]
  have e : r - p = (q - p) + (r - q) := by omega
  rw [e, List.take_add, List.drop_drop, show p + (q - p) = q from by omega]

theorem takeInts_once (b : List Int) (hb : Bytes b) (f : Nat) : ∀ (m p : Nat) (l l' : List Int) (tt : Int), b.length + 1 ≤ f + p → p ≤ b.length → Spec.takeInts b f m (p : Int) l = (l', tt, 0) →
    ∃ (xs : List Int) (q : Nat), l' = l ++ xs ∧ xs.length = m ∧ tt = (q : Int) ∧ p ≤ q ∧ q ≤ b.length ∧ (b.take q).drop p = putInts xs ∧ Ints64 xs := by
  induction f with
  | zero => intro m p l l' tt hf hp; exact absurd hf (by omega)
  | succ f ih =>
    intro m p l l' tt hf hp h
    rw [Spec.takeInts] at h
    by_cases hm : m = 0
    · rw [if_pos hm] at h
      simp only [Prod.mk.injEq, and_true] at h
      obtain ⟨rfl, rfl⟩ := h
      refine ⟨[], p, by simp, hm.symm, rfl, Nat.le_refl _, hp, ?_, fun x hx => by cases hx⟩
      rw [List.drop_eq_nil_of_le (by rw [List.length_take]; omega)]
      rfl
    · rw [if_neg hm] at h
      by_cases he : (Spec.takeInt b (p : Int)).2.2 = 0
      · rw [if_pos he] at h
        rcases Spec.take_cases b (p : Int) hb with ⟨e, hne, ht⟩ | ⟨p', n, hp', hn, hlen, ht, hseg⟩
        · have : (Spec.takeInt b (p : Int)).2.2 = e := by unfold Spec.takeInt; rw [ht]
          exact absurd (this.symm.trans he) hne
        · obtain rfl : p' = p := by omega
          have hv : (Spec.takeInt b (p' : Int)).1 = Spec.zz n := by unfold Spec.takeInt; rw [ht, Int.toNat_natCast]
          have hq : (Spec.takeInt b (p' : Int)).2.1 = ((p' + (Spec.putN n).length : Nat) : Int) := by unfold Spec.takeInt; rw [ht]
          have hpl := Spec.putN_length n
          rw [hv, hq] at h
          obtain ⟨xs, q, hl, hxl, hto, hpq, hqb, hput, hint⟩ := ih (m - 1) _ _ l' tt (by omega) hlen h
          refine ⟨Spec.zz n :: xs, q, by rw [hl, List.append_assoc]; rfl, by simp only [List.length_cons]; omega, hto, by omega, hqb, ?_, ?_⟩
          · rw [seg_cons (b := b) (p := p') (q := p' + (Spec.putN n).length) (r := q) (by omega) hpq hqb, hput, show p' + (Spec.putN n).length - p' = (Spec.putN n).length from by omega, hseg]
            unfold putInts
            rw [List.flatMap_cons, Spec.fold_zz]
          · intro x hx
            rcases List.mem_cons.1 hx with rfl | hx
            · exact Spec.zz_range n hn
            · exact hint x hx
      · rw [if_neg he] at h
        simp only [Prod.mk.injEq] at h
        exact absurd h.2.2 he

theorem takeList_once (b : List Int) (a most : Int) (hb : Bytes b) (h : (Spec.takeList b a most).2.2 = 0) :
    ∃ (xs : List Int) (p q : Nat), a = (p : Int) ∧ Spec.takeList b a most = (xs, (q : Int), 0) ∧ p < q ∧ q ≤ b.length ∧ (b.take q).drop p = Spec.putN xs.length ++ putInts xs ∧ Ints64 xs ∧ (xs.length : Int) ≤ most := by
  unfold Spec.takeList at h ⊢
  rcases Spec.take_cases b a hb with ⟨e, hne, ht⟩ | ⟨p, n, hp, hn, hlen, ht, hseg⟩
  · rw [ht] at h
    rw [if_neg hne] at h
    exact absurd h hne
  · rw [ht] at h ⊢
    simp only [if_true] at h ⊢
    by_cases hg : most < 0 ∨ (n : Int) > most
    · rw [if_pos hg] at h
      exact absurd h (by decide)
    · rw [if_neg hg, Int.toNat_natCast] at h ⊢
      have hpl := Spec.putN_length n
      obtain ⟨r, hr⟩ : ∃ r, Spec.takeInts b (b.length + 1) n ((p + (Spec.putN n).length : Nat) : Int) [] = r := ⟨_, rfl⟩
      obtain ⟨l', tt, e⟩ := r
      rw [hr] at h ⊢
      have he : e = 0 := h
      subst he
      obtain ⟨xs, q, hl, hxl, hto, hpq, hqb, hput, hint⟩ := takeInts_once b hb (b.length + 1) n _ [] l' tt (by omega) hlen hr
      refine ⟨xs, p, q, hp, by rw [hl, hto]; rfl, by omega, hqb, ?_, hint, by omega⟩
      rw [seg_cons (b := b) (p := p) (q := p + (Spec.putN n).length) (r := q) (by omega) hpq hqb, hput, show p + (Spec.putN n).length - p = (Spec.putN n).length from by omega, hseg, hxl]

theorem OctetOnce : horariumlaw03_OctetOnce.Pure := by
  intro l0 a1 hm hn hb hw
  have hb' := bytes_of_wf hb
  refine ⟨5000, ?_⟩
  unfold horariumlaw03_OctetOnce.f
  rw [short_eq, Option.bind_some]
  by_cases hs : l0.length ≤ 2000 ∧ (⟨#[]⟩ : ByteArray).size ≤ 1000 ∧ ([] : List Int).length ≤ 300
  · have hs1 := hs.1
    rw [decide_eq_true hs, if_pos rfl, take_eq _ l0 a1 hb', Option.bind_some]
    rcases Spec.take_cases l0 a1 hb' with ⟨e, hne, ht⟩ | ⟨p, n, hp, hn', hlen, ht, hseg⟩
    · rw [ht]
      rw [if_neg hne, if_pos rfl, if_pos rfl, heads03_eq 5000 (by decide), Option.bind_some]
    · have hpl := Spec.putN_length n
      have hseg2 : (l0.take (p + (Spec.putN n).length)).drop p = Spec.putN n := by
        rw [List.drop_take, show p + (Spec.putN n).length - p = (Spec.putN n).length from by omega, hseg]
      have j0 : horariumlaw03_OctetOnce.j0 5000 l0 (p : Int) false = some true := by
        obtain ⟨t1, _⟩ := takeList_eq 4999 l0 (p : Int) 2000 hb' (by omega) (by decide) (by omega)
        rw [horariumlaw03_OctetOnce.j0, if_neg Bool.false_ne_true, t1, Option.bind_some]
        by_cases he : (Spec.takeList l0 (p : Int) 2000).2.2 = 0
        · obtain ⟨xs, p', q, hp', hres, hpq, hql, hput, hint, hx2⟩ := takeList_once l0 (p : Int) 2000 hb' he
          obtain rfl : p' = p := by omega
          obtain ⟨pl, _⟩ := putList_eq 4999 xs hint (by omega) (by omega)
          rw [if_pos he, hres]
          simp only []
          rw [if_pos (by omega), if_pos (by omega), pl, Option.bind_some, if_pos (by omega), if_pos (by omega), Int.toNat_natCast, Int.toNat_natCast, hput, same_self, Option.bind_some, if_pos rfl, heads03_eq 4999 (by decide), Option.bind_some]
        · rw [if_neg he, heads03_eq 4999 (by decide), Option.bind_some]
      rw [ht, hp]
      simp only [if_true]
      rw [if_neg (by omega), if_neg (by omega), if_neg (by omega), put_eq 5000 n hn' (by decide), Option.bind_some, if_pos (by omega), if_pos (by omega), if_pos (by omega), Int.toNat_natCast, Int.toNat_natCast, hseg2, same_self, Option.bind_some]
      exact j0
  · rw [decide_eq_false hs, if_neg Bool.false_ne_true, heads03_eq 5000 (by decide), Option.bind_some]

end Go.Proofs.Ytccjdefhieilpaa.Pure
