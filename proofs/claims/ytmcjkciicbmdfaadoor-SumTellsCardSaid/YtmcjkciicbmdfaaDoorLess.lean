import Derived.Test.YtmcjkciicbmdfaaDoorHex
import Derived.Deep.QuietTactic
import Derived.BigQuiet
namespace Go.Proofs.YtmcjkciicbmdfaaDoor
open Go.RowKit SumMath
def lessL : List Nat → List Nat → Bool
  | x :: a, y :: b => if x = y then lessL a b else decide (x < y)
  | _, _ => false
theorem lessL_at (k : Nat) : ∀ (a b : List Nat), a.length = b.length → (∀ j, j < k → a.getD j 0 = b.getD j 0) → k < a.length → a.getD k 0 ≠ b.getD k 0 → lessL a b = decide (a.getD k 0 < b.getD k 0) := by
  induction k with
  | zero =>
    intro a b hl _ hk hne
    match a, b with
    | [], _ => simp at hk
    | x :: a, [] => simp at hl
    | x :: a, y :: b => simp at hne; simp [lessL, hne]
  | succ k ih =>
    intro a b hl hj hk hne
    match a, b with
    | [], _ => simp at hk
    | x :: a, [] => simp at hl
    | x :: a, y :: b =>
      have h0 : x = y := by simpa using hj 0 (by omega)
      have := ih a b (by simpa using hl) (fun j h => by simpa using hj (j + 1) (by omega)) (by simpa using hk) (by simpa using hne)
      simpa [lessL, h0] using this
theorem lessL_end : ∀ (a b : List Nat), a.length = b.length → (∀ j, j < a.length → a.getD j 0 = b.getD j 0) → lessL a b = false := by
  intro a
  induction a with
  | nil => intro b _ _; simp [lessL]
  | cons x a ih =>
    intro b hl hj
    match b with
    | [] => simp at hl
    | y :: b =>
      have h0 : x = y := by simpa using hj 0 (by simp)
      have := ih b (by simpa using hl) (fun j h => by simpa using hj (j + 1) (by simpa using h))
      simpa [lessL, h0] using this
theorem u8s_at (l : List Nat) (k : Nat) (h : k < l.length) : (u8s l)[k]? = some (.int .u8 (l.getD k 0)) := by simp [u8s, h, List.getD]
theorem lt_succ_all {P : Nat → Prop} (k : Nat) (h : ∀ j, j < k → P j) (hk : P k) : ∀ j, j < k + 1 → P j := fun j hj => by
  by_cases e : j = k
  · exact e ▸ hk
  · exact h j (by omega)
set_option maxHeartbeats 400000 in
theorem less_any (a b : List Nat) (ha : a.length = 32) (hb : b.length = 32) (w : World) :
    Calls Tryd.prog 17 #[.agg (u8s a), .agg (u8s b)] w fun e w' => e = .returned (.bool (lessL a b)) ∧ Below w.heap.size w w' := by
  have Ha := Lib.hid ha
  have Hb := Lib.hid hb
  clear ha hb
  go_enter Tryd.func17, Tryd.ntmps17
  go_wp2_with fail
  go_loopw [6] (fun i wr => ∃ k : Nat, k ≤ 32 ∧ i = .int .i64 k ∧ Hid (∀ j, j < k → a.getD j 0 = b.getD j 0) ∧ Hid (wr.heap[w.heap.size]? = some (.cells (u8s a) 23)) ∧ Hid (wr.heap[w.heap.size + 1]? = some (.cells (u8s b) 23)) ∧ Below w.heap.size w wr) (fun i _ => 32 - (intOf i).toNat)
  case atStart => exact ⟨0, by omega, rfl, fun j hj => by omega, heap_alloc2_old _ _ _, heap_alloc2_new _ _ _, ((Below.refl _ _).alloc (Nat.le_refl _) _).alloc (by simp) _⟩
  case round =>
    obtain ⟨k, hk, rfl, hall, g1, g2, hbel⟩ := hrel
    by_cases hlt : k < 32
    · have hdk : decide ((k : Int) < 32) = true := by simp; omega
      have c1 := (cell_of_row wr w.heap.size k _ _ _ g1.out).trans (u8s_at a k (by rw [Ha.out]; exact hlt))
      have c2 := (cell_of_row wr (w.heap.size + 1) k _ _ _ g2.out).trans (u8s_at b k (by rw [Hb.out]; exact hlt))
      by_cases hne : a.getD k 0 = b.getD k 0
      · have hall' := Lib.hid (lt_succ_all k hall.out hne)
        generalize a.getD k 0 = x at *
        generalize b.getD k 0 = y at *
        subst hne
        have hq : ((x : Int) != (x : Int)) = false := by simp
        clear hall
        go_wp2_with fail
        go_quiet (fail)
        go_wp2_with fail
        go_roundw
        case rel => exact ⟨k + 1, by omega, by go_num, hall', g1, g2, below_drewN hbel _⟩
        case measure => simp [intOf]; omega
      · have hat := Lib.hid (lessL_at k a b (by rw [Ha.out, Hb.out]) hall.out (by rw [Ha.out]; exact hlt) hne)
        generalize a.getD k 0 = x at *
        generalize b.getD k 0 = y at *
        have hq : ((x : Int) != (y : Int)) = true := by simp; omega
        clear hall
        go_wp2_with fail
        go_quiet (fail)
        go_wp2_with fail
        go_quiet (fail)
        go_wp2_with fail
        go_ret
        exact ⟨by rw [hat.out]; rfl, below_drewN (below_drewN hbel _) _⟩
    · obtain rfl : k = 32 := by omega
      have he := Lib.hid (lessL_end a b (by rw [Ha.out, Hb.out]) (by rw [Ha.out]; exact hall.out))
      clear hall
      go_wp2_with fail
      go_ret
      exact ⟨by rw [he.out]; rfl, hbel⟩
end Go.Proofs.YtmcjkciicbmdfaaDoor
