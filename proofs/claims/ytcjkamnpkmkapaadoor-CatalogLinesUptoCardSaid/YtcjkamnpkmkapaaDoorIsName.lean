import Derived.Test.YtcjkamnpkmkapaaDoorName
namespace Go.Proofs.YtcjkamnpkmkapaaDoor
open Go.RowKit
set_option maxHeartbeats 1000000 in
theorem isName_mid (s : ByteArray) (h : 1 ≤ s.size) (h2 : s.size ≤ 100) (w : World) (c : Nat) (hc : c = s[0].toNat) (hlo : 97 ≤ c) (hhi : c ≤ 122) :
    Calls Tryd.prog 21 #[.string s] w fun e w' => e = .returned (.bool (nameB (nats s))) ∧ w = w' := by
  have hd : decide ((s.size : Int) < 1) = false := decide_eq_false (by omega)
  have hd2 : decide ((100 : Int) < (s.size : Int)) = false := decide_eq_false (by omega)
  have hd3 : decide ((s[0].toNat : Int) < 97) = false := decide_eq_false (by omega)
  have hd4 : decide ((122 : Int) < (s[0].toNat : Int)) = false := decide_eq_false (by omega)
  have H := Lib.hid hc
  clear hc
  go_enter Tryd.func21, Tryd.ntmps21
  go_upto_region 4 with (fail)
  go_loopw [25] (fun i wr => ∃ k : Nat, k ≤ s.size ∧ i = .int .i64 k ∧ Hid (∀ j, j < k → nameC ((nats s).getD j 0) = true) ∧ wr = w) (fun i _ => s.size - (intOf i).toNat)
  case atStart => exact ⟨0, by omega, rfl, fun j hj => by omega, rfl⟩
  case round =>
    obtain ⟨k, hk, rfl, hall, rfl⟩ := hrel
    by_cases hlt : k < s.size
    · have hk1 : decide ((k : Int) < s.size) = true := decide_eq_true (by omega)
      have hge := Lib.hid (nats_getD s k hlt)
      have fin : Hid (∀ x, nameC ((nats s).getD k 0) = x → x = true → ∀ j, j < k + 1 → nameC ((nats s).getD j 0) = true) := fun x hx hy j hj => by
        by_cases e : j = k
        · subst e; rw [hx, hy]
        · exact hall.out j (by omega)
      have hcl : (s[k].toNat < 48) ∨ (48 ≤ s[k].toNat ∧ s[k].toNat ≤ 57) ∨ (58 ≤ s[k].toNat ∧ s[k].toNat ≤ 64) ∨ (65 ≤ s[k].toNat ∧ s[k].toNat ≤ 90) ∨ (91 ≤ s[k].toNat ∧ s[k].toNat ≤ 96 ∧ s[k].toNat ≠ 95) ∨ (s[k].toNat = 95) ∨ (97 ≤ s[k].toNat ∧ s[k].toNat ≤ 122) ∨ (123 ≤ s[k].toNat) := by omega
      rcases hcl with hcl | hcl | hcl | hcl | hcl | hcl | hcl | hcl
      · have hnc : nameC s[k].toNat = false := by simp [nameC]; omega
        have q0 : ((s[k].toNat : Int) != 95) = true := by simp; omega
        have q1 : (decide ((s[k].toNat : Int) < 48)) = true := by simp; omega
        have q2 : (decide ((57 : Int) < s[k].toNat)) = false := by simp; omega
        have q3 : (decide ((s[k].toNat : Int) < 97)) = true := by simp; omega
        have q4 : (decide ((122 : Int) < s[k].toNat)) = false := by simp; omega
        have q5 : (decide ((s[k].toNat : Int) < 65)) = true := by simp; omega
        have q6 : (decide ((90 : Int) < s[k].toNat)) = false := by simp; omega
        rw [← hge.out] at hnc
        have HN := Lib.hid hnc
        clear hnc hcl
        go_wp2_with fail
        go_ret
        exact ⟨by rw [nameB_bad s k hlt HN.out]; rfl, rfl⟩
      · have hnc : nameC s[k].toNat = true := by simp [nameC]; omega
        have q0 : ((s[k].toNat : Int) != 95) = true := by simp; omega
        have q1 : (decide ((s[k].toNat : Int) < 48)) = false := by simp; omega
        have q2 : (decide ((57 : Int) < s[k].toNat)) = false := by simp; omega
        have q3 : (decide ((s[k].toNat : Int) < 97)) = true := by simp; omega
        have q4 : (decide ((122 : Int) < s[k].toNat)) = false := by simp; omega
        have q5 : (decide ((s[k].toNat : Int) < 65)) = true := by simp; omega
        have q6 : (decide ((90 : Int) < s[k].toNat)) = false := by simp; omega
        rw [← hge.out] at hnc
        have HN := Lib.hid hnc
        clear hnc hcl
        go_wp2_with fail
        go_roundw
        case rel => exact ⟨k + 1, by omega, by go_num, fin.out _ HN.out rfl, trivial⟩
        case measure => simp [intOf]; omega
      · have hnc : nameC s[k].toNat = false := by simp [nameC]; omega
        have q0 : ((s[k].toNat : Int) != 95) = true := by simp; omega
        have q1 : (decide ((s[k].toNat : Int) < 48)) = false := by simp; omega
        have q2 : (decide ((57 : Int) < s[k].toNat)) = true := by simp; omega
        have q3 : (decide ((s[k].toNat : Int) < 97)) = true := by simp; omega
        have q4 : (decide ((122 : Int) < s[k].toNat)) = false := by simp; omega
        have q5 : (decide ((s[k].toNat : Int) < 65)) = true := by simp; omega
        have q6 : (decide ((90 : Int) < s[k].toNat)) = false := by simp; omega
        rw [← hge.out] at hnc
        have HN := Lib.hid hnc
        clear hnc hcl
        go_wp2_with fail
        go_ret
        exact ⟨by rw [nameB_bad s k hlt HN.out]; rfl, rfl⟩
      · have hnc : nameC s[k].toNat = true := by simp [nameC]; omega
        have q0 : ((s[k].toNat : Int) != 95) = true := by simp; omega
        have q1 : (decide ((s[k].toNat : Int) < 48)) = false := by simp; omega
        have q2 : (decide ((57 : Int) < s[k].toNat)) = true := by simp; omega
        have q3 : (decide ((s[k].toNat : Int) < 97)) = true := by simp; omega
        have q4 : (decide ((122 : Int) < s[k].toNat)) = false := by simp; omega
        have q5 : (decide ((s[k].toNat : Int) < 65)) = false := by simp; omega
        have q6 : (decide ((90 : Int) < s[k].toNat)) = false := by simp; omega
        rw [← hge.out] at hnc
        have HN := Lib.hid hnc
        clear hnc hcl
        go_wp2_with fail
        go_roundw
        case rel => exact ⟨k + 1, by omega, by go_num, fin.out _ HN.out rfl, trivial⟩
        case measure => simp [intOf]; omega
      · have hnc : nameC s[k].toNat = false := by simp [nameC]; omega
        have q0 : ((s[k].toNat : Int) != 95) = true := by simp; omega
        have q1 : (decide ((s[k].toNat : Int) < 48)) = false := by simp; omega
        have q2 : (decide ((57 : Int) < s[k].toNat)) = true := by simp; omega
        have q3 : (decide ((s[k].toNat : Int) < 97)) = true := by simp; omega
        have q4 : (decide ((122 : Int) < s[k].toNat)) = false := by simp; omega
        have q5 : (decide ((s[k].toNat : Int) < 65)) = false := by simp; omega
        have q6 : (decide ((90 : Int) < s[k].toNat)) = true := by simp; omega
        rw [← hge.out] at hnc
        have HN := Lib.hid hnc
        clear hnc hcl
        go_wp2_with fail
        go_ret
        exact ⟨by rw [nameB_bad s k hlt HN.out]; rfl, rfl⟩
      · have hnc : nameC s[k].toNat = true := by simp [nameC]; omega
        have q0 : ((s[k].toNat : Int) != 95) = false := by simp; omega
        have q1 : (decide ((s[k].toNat : Int) < 48)) = false := by simp; omega
        have q2 : (decide ((57 : Int) < s[k].toNat)) = true := by simp; omega
        have q3 : (decide ((s[k].toNat : Int) < 97)) = true := by simp; omega
        have q4 : (decide ((122 : Int) < s[k].toNat)) = false := by simp; omega
        have q5 : (decide ((s[k].toNat : Int) < 65)) = false := by simp; omega
        have q6 : (decide ((90 : Int) < s[k].toNat)) = true := by simp; omega
        rw [← hge.out] at hnc
        have HN := Lib.hid hnc
        clear hnc hcl
        go_wp2_with fail
        go_roundw
        case rel => exact ⟨k + 1, by omega, by go_num, fin.out _ HN.out rfl, trivial⟩
        case measure => simp [intOf]; omega
      · have hnc : nameC s[k].toNat = true := by simp [nameC]; omega
        have q0 : ((s[k].toNat : Int) != 95) = true := by simp; omega
        have q1 : (decide ((s[k].toNat : Int) < 48)) = false := by simp; omega
        have q2 : (decide ((57 : Int) < s[k].toNat)) = true := by simp; omega
        have q3 : (decide ((s[k].toNat : Int) < 97)) = false := by simp; omega
        have q4 : (decide ((122 : Int) < s[k].toNat)) = false := by simp; omega
        have q5 : (decide ((s[k].toNat : Int) < 65)) = false := by simp; omega
        have q6 : (decide ((90 : Int) < s[k].toNat)) = true := by simp; omega
        rw [← hge.out] at hnc
        have HN := Lib.hid hnc
        clear hnc hcl
        go_wp2_with fail
        go_roundw
        case rel => exact ⟨k + 1, by omega, by go_num, fin.out _ HN.out rfl, trivial⟩
        case measure => simp [intOf]; omega
      · have hnc : nameC s[k].toNat = false := by simp [nameC]; omega
        have q0 : ((s[k].toNat : Int) != 95) = true := by simp; omega
        have q1 : (decide ((s[k].toNat : Int) < 48)) = false := by simp; omega
        have q2 : (decide ((57 : Int) < s[k].toNat)) = true := by simp; omega
        have q3 : (decide ((s[k].toNat : Int) < 97)) = false := by simp; omega
        have q4 : (decide ((122 : Int) < s[k].toNat)) = true := by simp; omega
        have q5 : (decide ((s[k].toNat : Int) < 65)) = false := by simp; omega
        have q6 : (decide ((90 : Int) < s[k].toNat)) = true := by simp; omega
        rw [← hge.out] at hnc
        have HN := Lib.hid hnc
        clear hnc hcl
        go_wp2_with fail
        go_ret
        exact ⟨by rw [nameB_bad s k hlt HN.out]; rfl, rfl⟩
    · obtain rfl : k = s.size := by omega
      have hk1 : decide ((s.size : Int) < s.size) = false := decide_eq_false (by omega)
      have hyes := Lib.hid (nameB_good s h h2 (by rw [nats_getD s 0 (by omega), ← H.out]; exact hlo) (by rw [nats_getD s 0 (by omega), ← H.out]; exact hhi) hall.out)
      go_wp2_with fail
      go_ret
      exact ⟨by rw [hyes.out]; rfl, rfl⟩
theorem isName_first (s : ByteArray) (h : 1 ≤ s.size) (h2 : s.size ≤ 100) (w : World) (hb : ¬ (97 ≤ s[0].toNat ∧ s[0].toNat ≤ 122)) :
    Calls Tryd.prog 21 #[.string s] w fun e w' => e = .returned (.bool (nameB (nats s))) ∧ w = w' := by
  have hno := Lib.hid (nameB_first s (by rw [nats_getD s 0 (by omega)]; exact hb))
  have hd : decide ((s.size : Int) < 1) = false := decide_eq_false (by omega)
  have hd2 : decide ((100 : Int) < (s.size : Int)) = false := decide_eq_false (by omega)
  by_cases hlo : s[0].toNat < 97
  · have hd3 : decide ((s[0].toNat : Int) < 97) = true := decide_eq_true (by omega)
    clear hb
    go_enter Tryd.func21, Tryd.ntmps21
    go_wp2_with fail
    go_ret
    exact ⟨by rw [hno.out]; rfl, rfl⟩
  · have hd3 : decide ((s[0].toNat : Int) < 97) = false := decide_eq_false (by omega)
    have hd4 : decide ((122 : Int) < (s[0].toNat : Int)) = true := decide_eq_true (by omega)
    clear hb
    go_enter Tryd.func21, Tryd.ntmps21
    go_wp2_with fail
    go_ret
    exact ⟨by rw [hno.out]; rfl, rfl⟩
theorem isName_any (s : ByteArray) (w : World) :
    Calls Tryd.prog 21 #[.string s] w fun e w' => e = .returned (.bool (nameB (nats s))) ∧ w = w' := by
  by_cases h : s.size < 1
  · exact isName_short s h w
  · by_cases h2 : 100 < s.size
    · exact isName_long s h2 w
    · by_cases hb : 97 ≤ s[0].toNat ∧ s[0].toNat ≤ 122
      · exact isName_mid s (by omega) (by omega) w _ rfl hb.1 hb.2
      · exact isName_first s (by omega) (by omega) w hb
end Go.Proofs.YtcjkamnpkmkapaaDoor
