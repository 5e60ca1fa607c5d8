import Derived.Test.YtcjkamnpkmkapaaDoorCan
namespace Go.Proofs.YtcjkamnpkmkapaaDoor
open Go.RowKit
theorem nameB_short (s : ByteArray) (h : s.size < 1) : nameB (nats s) = false := by
  simp only [nameB, nats_length, decide_eq_false (show ¬ 1 ≤ s.size by omega), Bool.false_and]
theorem nameB_long (s : ByteArray) (h : 100 < s.size) : nameB (nats s) = false := by
  simp only [nameB, nats_length, decide_eq_false (show ¬ s.size ≤ 100 by omega), Bool.false_and, Bool.and_false]
theorem nameB_first (s : ByteArray) (h : ¬ (97 ≤ (nats s).getD 0 0 ∧ (nats s).getD 0 0 ≤ 122)) : nameB (nats s) = false := by
  unfold nameB
  by_cases a : 97 ≤ (nats s).getD 0 0
  · rw [show decide ((nats s).getD 0 0 ≤ 122) = false by simp only [decide_eq_false_iff_not]; omega]; simp
  · rw [show decide (97 ≤ (nats s).getD 0 0) = false by simp only [decide_eq_false_iff_not]; exact a]; simp
theorem nameB_bad (s : ByteArray) (k : Nat) (hk : k < s.size) (h : nameC ((nats s).getD k 0) = false) : nameB (nats s) = false := by
  have : (nats s).all nameC = false := by
    rw [List.all_eq_false]
    have hk' : k < (nats s).length := by rw [nats_length]; exact hk
    exact ⟨(nats s)[k], List.getElem_mem hk', by simpa [List.getD, hk'] using h⟩
  rw [nameB, this, Bool.and_false]
theorem nameB_good (s : ByteArray) (h1 : 1 ≤ s.size) (h2 : s.size ≤ 100) (h3 : 97 ≤ (nats s).getD 0 0) (h4 : (nats s).getD 0 0 ≤ 122) (h : ∀ j, j < s.size → nameC ((nats s).getD j 0) = true) : nameB (nats s) = true := by
  have : (nats s).all nameC = true := by
    rw [List.all_eq_true]
    intro x hx
    obtain ⟨i, hi, rfl⟩ := List.getElem_of_mem hx
    have := h i (by rw [← nats_length]; exact hi)
    simpa [List.getD, hi] using this
  rw [nameB, this, nats_length, decide_eq_true h1, decide_eq_true h2, decide_eq_true h3, decide_eq_true h4]; rfl
theorem isName_short (s : ByteArray) (h : s.size < 1) (w : World) :
    Calls Tryd.prog 21 #[.string s] w fun e w' => e = .returned (.bool (nameB (nats s))) ∧ w = w' := by
  rw [nameB_short s h]
  have hd : decide ((s.size : Int) < 1) = true := by simp; omega
  clear h
  go_enter Tryd.func21, Tryd.ntmps21
  go_wp2_with fail
  go_ret
  exact ⟨rfl, rfl⟩
theorem isName_long (s : ByteArray) (h : 100 < s.size) (w : World) :
    Calls Tryd.prog 21 #[.string s] w fun e w' => e = .returned (.bool (nameB (nats s))) ∧ w = w' := by
  rw [nameB_long s h]
  have hd : decide ((s.size : Int) < 1) = false := by simp; omega
  have hd2 : decide (100 < (s.size : Int)) = true := by simp; omega
  clear h
  go_enter Tryd.func21, Tryd.ntmps21
  go_wp2_with fail
  go_ret
  exact ⟨rfl, rfl⟩
end Go.Proofs.YtcjkamnpkmkapaaDoor
