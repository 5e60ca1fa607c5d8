import Derived.Test.YtcjkamnpkmkapaaDoorPlain
import Derived.Lib.Bytealg
namespace Go.Proofs.YtcjkamnpkmkapaaDoor
theorem indexByte_cases (l : List UInt8) (c : UInt8) : (Lib.indexByte l c = -1 ∧ l.takeWhile (· != c) = l) ∨ (Lib.indexByte l c = ((l.takeWhile (· != c)).length : Int) ∧ (l.takeWhile (· != c)).length < l.length) := by
  induction l with
  | nil => left; exact ⟨rfl, rfl⟩
  | cons b l ih =>
    rw [Lib.indexByte]
    by_cases hb : b = c
    · subst hb
      right
      simp
    · have h1 : (b == c) = false := by simpa using hb
      have h2 : (b != c) = true := by simpa using hb
      rw [h1, List.takeWhile_cons, h2]
      simp only [Bool.false_eq_true, if_false, if_true]
      rcases ih with ⟨i1, i2⟩ | ⟨i1, i2⟩
      · left; rw [i1, i2]; exact ⟨rfl, rfl⟩
      · right
        rw [i1, if_neg (by simp)]
        simp only [List.length_cons]; omega
/-- what the loop of split keeps -/
def SInv (l : List UInt8) (at_ : Nat) (k : Nat) (q : Int) (R : List Wd) : Prop :=
  R.length ≤ k ∧
  ((k ≤ l.length ∧ ∃ n, n ≤ k ∧ (q = if n = 0 then -1 else ((k - n : Nat) : Int)) ∧ R ++ wordsF ((l.take k).drop (k - n)) (at_ + k) (l.drop k) = wordsF [] at_ l) ∨
   (k = l.length + 1 ∧ R = wordsF [] at_ l))
theorem sinv_start (l : List UInt8) (at_ : Nat) : SInv l at_ 0 (-1) [] := by
  refine ⟨Nat.le_refl _, .inl ⟨Nat.zero_le _, 0, Nat.le_refl _, rfl, ?_⟩⟩
  simp
theorem curlen (l : List UInt8) (k n : Nat) (h : n ≤ k) (hk : k ≤ l.length) : ((l.take k).drop (k - n)).length = n := by
  rw [List.length_drop, List.length_take]; omega
theorem cur_nil (l : List UInt8) (k n : Nat) (h : n ≤ k) (hk : k ≤ l.length) : (l.take k).drop (k - n) = [] ↔ n = 0 := by
  rw [← List.length_eq_zero_iff, curlen l k n h hk]
theorem sinv_lt {l : List UInt8} {at_ k : Nat} {q : Int} {R : List Wd} (h : SInv l at_ k q R) (hk : k ≤ l.length) : q < 0 ∧ q = -1 ∨ 0 ≤ q ∧ q < k := by
  obtain ⟨_, ⟨_, n, hn, hq, _⟩ | ⟨h', _⟩⟩ := h
  · by_cases h0 : n = 0
    · rw [if_pos h0] at hq; omega
    · rw [if_neg h0] at hq; omega
  · omega
theorem sinv_blank {l : List UInt8} {at_ k : Nat} {q : Int} {R : List Wd} (h : SInv l at_ k q R) (hk : k < l.length) (hb : blankC l[k] = true) (hq : q < 0) : SInv l at_ (k + 1) (-1) R := by
  obtain ⟨hR, ⟨_, n, hn, hq', hw⟩ | ⟨h', _⟩⟩ := h
  · obtain rfl : n = 0 := by
      by_cases h0 : n = 0
      · exact h0
      · rw [if_neg h0] at hq'; omega
    refine ⟨by omega, .inl ⟨hk, 0, by omega, rfl, ?_⟩⟩
    rw [List.drop_eq_getElem_cons hk, (cur_nil l k 0 hn (by omega)).2 rfl, wordsF, hb] at hw
    rw [(cur_nil l (k + 1) 0 (by omega) (by omega)).2 rfl]
    exact hw
  · omega
theorem sinv_word {l : List UInt8} {at_ k : Nat} {q : Int} {R : List Wd} (h : SInv l at_ k q R) (hk : k < l.length) (hb : blankC l[k] = true) (hq : 0 ≤ q) : SInv l at_ (k + 1) (-1) (R ++ [((l.take k).drop q.toNat, at_ + q.toNat)]) := by
  obtain ⟨hR, ⟨_, n, hn, hq', hw⟩ | ⟨h', _⟩⟩ := h
  · have h0 : n ≠ 0 := by rintro rfl; simp at hq'; omega
    rw [if_neg h0] at hq'
    refine ⟨by simp; omega, .inl ⟨hk, 0, by omega, rfl, ?_⟩⟩
    rw [List.drop_eq_getElem_cons hk, wordsF, hb, if_pos rfl, if_neg (by rw [cur_nil l k n hn (by omega)]; exact h0), curlen l k n hn (by omega)] at hw
    rw [(cur_nil l (k + 1) 0 (by omega) (by omega)).2 rfl, ← hw]
    subst hq'
    simp only [Int.toNat_natCast, List.append_assoc, List.singleton_append]
    rw [show at_ + k - n = at_ + (k - n) by omega]
    rfl
  · omega
theorem take_drop_snoc (l : List UInt8) (k n : Nat) (hn : n ≤ k) (hk : k < l.length) : (l.take (k + 1)).drop (k + 1 - (n + 1)) = (l.take k).drop (k - n) ++ [l[k]] := by
  rw [List.take_succ_eq_append_getElem hk, show k + 1 - (n + 1) = k - n by omega, List.drop_append_of_le_length (by rw [List.length_take]; omega)]
theorem sinv_step {l : List UInt8} {at_ k : Nat} {q : Int} {R : List Wd} (h : SInv l at_ k q R) (hk : k < l.length) (hb : blankC l[k] = false) : SInv l at_ (k + 1) (if q < 0 then k else q) R := by
  obtain ⟨hR, ⟨_, n, hn, hq', hw⟩ | ⟨h', _⟩⟩ := h
  · refine ⟨by omega, .inl ⟨hk, n + 1, by omega, ?_, ?_⟩⟩
    · rw [if_neg (show ¬ n + 1 = 0 by omega)]
      by_cases h0 : n = 0
      · rw [if_pos h0] at hq'; rw [if_pos (show q < 0 by omega)]; omega
      · rw [if_neg h0] at hq'; rw [if_neg (show ¬ q < 0 by omega)]; omega
    · rw [List.drop_eq_getElem_cons hk, wordsF, hb, if_neg (by decide)] at hw
      rw [take_drop_snoc l k n hn hk]
      exact hw
  · omega
theorem sinv_end {l : List UInt8} {at_ : Nat} {q : Int} {R : List Wd} (h : SInv l at_ l.length q R) (hq : q < 0) : SInv l at_ (l.length + 1) (-1) R := by
  obtain ⟨hR, ⟨_, n, hn, hq', hw⟩ | ⟨h', _⟩⟩ := h
  · obtain rfl : n = 0 := by
      by_cases h0 : n = 0
      · exact h0
      · rw [if_neg h0] at hq'; omega
    refine ⟨by omega, .inr ⟨rfl, ?_⟩⟩
    rw [List.drop_length, (cur_nil l _ 0 hn (by omega)).2 rfl, wordsF] at hw
    simpa using hw
  · omega
theorem sinv_endw {l : List UInt8} {at_ : Nat} {q : Int} {R : List Wd} (h : SInv l at_ l.length q R) (hq : 0 ≤ q) : SInv l at_ (l.length + 1) (-1) (R ++ [((l.take l.length).drop q.toNat, at_ + q.toNat)]) := by
  obtain ⟨hR, ⟨_, n, hn, hq', hw⟩ | ⟨h', _⟩⟩ := h
  · have h0 : n ≠ 0 := by rintro rfl; simp at hq'; omega
    rw [if_neg h0] at hq'
    refine ⟨by simp; omega, .inr ⟨rfl, ?_⟩⟩
    rw [List.drop_length, wordsF, if_neg (by rw [cur_nil l _ n hn (by omega)]; exact h0), curlen l _ n hn (by omega)] at hw
    rw [← hw]
    subst hq'
    rw [Int.toNat_natCast, show at_ + l.length - n = at_ + (l.length - n) by omega]
  · omega
theorem sinv_out {l : List UInt8} {at_ : Nat} {q : Int} {R : List Wd} (h : SInv l at_ (l.length + 1) q R) : R = wordsF [] at_ l := by
  obtain ⟨_, ⟨h', _⟩ | ⟨_, h'⟩⟩ := h
  · omega
  · exact h'
end Go.Proofs.YtcjkamnpkmkapaaDoor
