import Derived.Test.YtmcjkciicbmdfaaDoorSmall
namespace Go.Proofs.YtmcjkciicbmdfaaDoor
open Go.RowKit SumMath
theorem hv_hx : ∀ n : Nat, n < 16 → hv (hx n) = n := by decide +kernel
theorem hx_hv (c : Nat) (h : hv c < 16) : hx (hv c) = c := by
  by_cases h1 : 48 ≤ c ∧ c ≤ 57
  · have e : hv c = c - 48 := by unfold hv; rw [if_pos h1]
    rw [e]; unfold hx; rw [if_pos (by omega)]; omega
  · by_cases h2 : 97 ≤ c ∧ c ≤ 102
    · have e : hv c = c - 87 := by unfold hv; rw [if_neg h1, if_pos h2]
      rw [e]; unfold hx; rw [if_neg (by omega)]; omega
    · have e : hv c = 16 := by unfold hv; rw [if_neg h1, if_neg h2]
      omega
theorem hx_lt (n : Nat) (h : n < 16) : hx n < 256 := by unfold hx; split <;> omega
theorem ho_at (d : List Nat) (j : Nat) (h : j < 64) : (ho d 32).getD j 0 = hx (if j % 2 = 0 then d.getD (j / 2) 0 / 16 else d.getD (j / 2) 0 % 16) := by
  simp only [ho, List.getD, List.getElem?_map, List.getElem?_range h, Option.map_some, Option.getD_some]
  rw [if_pos (by omega)]
theorem rd_at (l : List Nat) (j : Nat) (h : j < 32) : (rd l 64).getD j 0 = 16 * hv (l.getD (2 * j) 0) + hv (l.getD (2 * j + 1) 0) := by
  simp only [rd, List.getD, List.getElem?_map, List.getElem?_range h, Option.map_some, Option.getD_some]
  rw [if_pos (by omega)]
theorem ext_getD {a b : List Nat} (hl : a.length = b.length) (h : ∀ i, i < a.length → a.getD i 0 = b.getD i 0) : a = b := by
  apply List.ext_getElem hl
  intro i h1 h2
  have := h i h1
  simpa [List.getD, h1, h2] using this
theorem ho_bytes (d : List Nat) (hd : ∀ x ∈ d, x < 256) : ∀ x ∈ ho d 32, x < 256 := by
  intro x hx
  simp only [ho, List.mem_map] at hx
  obtain ⟨j, _, rfl⟩ := hx
  have := getD_lt d hd (j / 2)
  split
  · split
    · exact hx_lt _ (by omega)
    · exact hx_lt _ (by omega)
  · decide
theorem read_hex_ok (d : List Nat) (hd : ∀ x ∈ d, x < 256) : readOk (ho d 32) = true := by
  apply readOk_yes _ (ho_length d 32)
  intro j hj
  have := getD_lt d hd (j / 2)
  rw [ho_at d j hj]
  split
  · rw [hv_hx _ (by omega)]; omega
  · rw [hv_hx _ (by omega)]; omega
theorem read_hex (d : List Nat) (h32 : d.length = 32) (hd : ∀ x ∈ d, x < 256) : rd (ho d 32) 64 = d := by
  apply ext_getD (by rw [rd_length, h32])
  intro i hi
  rw [rd_length] at hi
  have := getD_lt d hd i
  rw [rd_at _ i hi, ho_at d (2 * i) (by omega), ho_at d (2 * i + 1) (by omega), if_pos (by omega), if_neg (by omega), show 2 * i / 2 = i by omega, show (2 * i + 1) / 2 = i by omega, hv_hx _ (by omega), hv_hx _ (by omega)]
  omega
theorem readOk_at (l : List Nat) (h : readOk l = true) : l.length = 64 ∧ ∀ j, j < 64 → hv (l.getD j 0) < 16 := by
  simp only [readOk, Bool.and_eq_true, beq_iff_eq, List.all_eq_true, decide_eq_true_eq] at h
  refine ⟨h.1, fun j hj => ?_⟩
  have hj' : j < l.length := by omega
  simpa [List.getD, hj'] using h.2 l[j] (List.getElem_mem hj')
theorem hex_read (l : List Nat) (h : readOk l = true) : ho (rd l 64) 32 = l := by
  obtain ⟨hl, hv16⟩ := readOk_at l h
  apply ext_getD (by rw [ho_length, hl])
  intro j hj
  rw [ho_length] at hj
  have a1 := hv16 (2 * (j / 2)) (by omega)
  have a2 := hv16 (2 * (j / 2) + 1) (by omega)
  rw [ho_at _ j hj, rd_at l (j / 2) (by omega)]
  split
  · rw [show (16 * hv (l.getD (2 * (j / 2)) 0) + hv (l.getD (2 * (j / 2) + 1) 0)) / 16 = hv (l.getD (2 * (j / 2)) 0) by omega, hx_hv _ a1, show 2 * (j / 2) = j by omega]
  · rw [show (16 * hv (l.getD (2 * (j / 2)) 0) + hv (l.getD (2 * (j / 2) + 1) 0)) % 16 = hv (l.getD (2 * (j / 2) + 1) 0) by omega, hx_hv _ a2, show 2 * (j / 2) + 1 = j by omega]
theorem rd_bytes (l : List Nat) (h : readOk l = true) : ∀ x ∈ rd l 64, x < 256 := by
  obtain ⟨hl, hv16⟩ := readOk_at l h
  intro x hx
  simp only [rd, List.mem_map, List.mem_range] at hx
  obtain ⟨j, hj, rfl⟩ := hx
  have a1 := hv16 (2 * j) (by omega)
  have a2 := hv16 (2 * j + 1) (by omega)
  rw [if_pos (by omega)]
  omega
theorem strOf_nats (s : ByteArray) : strOf (nats s) = s := by
  have : (nats s).map UInt8.ofNat = s.data.toList := by
    simp only [nats, List.map_map]
    conv => rhs; rw [← List.map_id s.data.toList]
    apply List.map_congr_left
    intro x _
    simp
  rw [strOf, this]
theorem lessL_trans : ∀ a b c : List Nat, lessL a b = true → lessL b c = true → lessL a c = true
  | [], _, _, h, _ => by simp [lessL] at h
  | _ :: _, [], _, h, _ => by simp [lessL] at h
  | _ :: _, _ :: _, [], _, h => by simp [lessL] at h
  | x :: a, y :: b, z :: c, h1, h2 => by
    simp only [lessL] at *
    by_cases e1 : x = y
    · subst e1
      rw [if_pos rfl] at h1
      by_cases e2 : x = z
      · subst e2; rw [if_pos rfl] at *; exact lessL_trans a b c h1 h2
      · rw [if_neg e2] at *; exact h2
    · rw [if_neg e1] at h1
      by_cases e2 : y = z
      · subst e2; rw [if_neg e1]; exact h1
      · rw [if_neg e2] at h2
        simp only [decide_eq_true_eq] at *
        rw [if_neg (by omega)]; simp; omega
theorem lessL_asymm : ∀ a b : List Nat, lessL a b = true → lessL b a = false
  | [], _, h => by simp [lessL] at h
  | _ :: _, [], h => by simp [lessL] at h
  | x :: a, y :: b, h => by
    simp only [lessL] at *
    by_cases e1 : x = y
    · subst e1; rw [if_pos rfl] at *; exact lessL_asymm a b h
    · rw [if_neg e1] at h; rw [if_neg (Ne.symm e1)]; simp at *; omega
theorem lessL_total : ∀ a b : List Nat, a.length = b.length → lessL a b = false → lessL b a = false → a = b
  | [], [], _, _, _ => rfl
  | [], _ :: _, h, _, _ => by simp at h
  | _ :: _, [], h, _, _ => by simp at h
  | x :: a, y :: b, h, h1, h2 => by
    simp only [lessL] at *
    by_cases e1 : x = y
    · subst e1; rw [if_pos rfl] at *; rw [lessL_total a b (by simpa using h) h1 h2]
    · rw [if_neg e1] at h1; rw [if_neg (Ne.symm e1)] at h2; simp at *; omega
def hexl : List Nat → List Nat
  | [] => []
  | x :: l => hx (x / 16) :: hx (x % 16) :: hexl l
theorem hexl_length (l : List Nat) : (hexl l).length = 2 * l.length := by induction l with | nil => rfl | cons x l ih => simp [hexl, ih]; omega
theorem hexl_at (l : List Nat) (j : Nat) (h : j < 2 * l.length) : (hexl l).getD j 0 = hx (if j % 2 = 0 then l.getD (j / 2) 0 / 16 else l.getD (j / 2) 0 % 16) := by
  induction l generalizing j with
  | nil => simp at h
  | cons x l ih =>
    match j with
    | 0 => rfl
    | 1 => rfl
    | j + 2 =>
      have := ih j (by simp at h; omega)
      rw [show (j + 2) % 2 = j % 2 by omega, show (j + 2) / 2 = j / 2 + 1 by omega]
      exact this
theorem ho_hexl (d : List Nat) (h : d.length = 32) : ho d 32 = hexl d := by
  apply ext_getD (by rw [ho_length, hexl_length, h])
  intro j hj
  rw [ho_length] at hj
  rw [ho_at d j hj, hexl_at d j (by omega)]
theorem hx_mono : ∀ x : Nat, x < 16 → ∀ y : Nat, y < 16 → (UInt8.ofNat (hx x) < UInt8.ofNat (hx y) ↔ x < y) ∧ (UInt8.ofNat (hx x) = UInt8.ofNat (hx y) ↔ x = y) := by decide +kernel
theorem less_hexl : ∀ a b : List Nat, a.length = b.length → (∀ x ∈ a, x < 256) → (∀ x ∈ b, x < 256) → lessL a b = Op.bytesLess ((hexl a).map UInt8.ofNat) ((hexl b).map UInt8.ofNat)
  | [], [], _, _, _ => rfl
  | [], _ :: _, h, _, _ => by simp at h
  | _ :: _, [], h, _, _ => by simp at h
  | x :: a, y :: b, h, ha, hb => by
    have ih := less_hexl a b (by simpa using h) (fun z hz => ha z (by simp [hz])) (fun z hz => hb z (by simp [hz]))
    have hx' := ha x (by simp)
    have hy' := hb y (by simp)
    have m1 := hx_mono (x / 16) (by omega) (y / 16) (by omega)
    have m2 := hx_mono (x % 16) (by omega) (y % 16) (by omega)
    simp only [lessL, hexl, List.map_cons, Op.bytesLess]
    rw [← ih]
    by_cases e1 : x / 16 = y / 16
    · by_cases e2 : x % 16 = y % 16
      · have e : x = y := by omega
        subst e
        simp
      · have q1 : ¬ UInt8.ofNat (hx (x / 16)) < UInt8.ofNat (hx (y / 16)) := by rw [m1.1]; omega
        have q2 := m1.2.2 e1
        have q3 : ¬ UInt8.ofNat (hx (x % 16)) = UInt8.ofNat (hx (y % 16)) := by rw [m2.2]; exact e2
        rw [if_neg (by omega)]
        by_cases c : x < y
        · have q4 := m2.1.2 (show x % 16 < y % 16 by omega)
          simp [q2, q4, c]
        · have q4 : ¬ UInt8.ofNat (hx (x % 16)) < UInt8.ofNat (hx (y % 16)) := by rw [m2.1]; omega
          simp [q2, q4, q3, c]
    · have q2 : ¬ UInt8.ofNat (hx (x / 16)) = UInt8.ofNat (hx (y / 16)) := by rw [m1.2]; exact e1
      rw [if_neg (by omega)]
      by_cases c : x < y
      · have q4 := m1.1.2 (show x / 16 < y / 16 by omega)
        simp [q4, c]
      · have q4 : ¬ UInt8.ofNat (hx (x / 16)) < UInt8.ofNat (hx (y / 16)) := by rw [m1.1]; omega
        simp [q4, q2, c]
theorem less_hex (a b : List Nat) (ha : a.length = 32) (hb : b.length = 32) (h1 : ∀ x ∈ a, x < 256) (h2 : ∀ x ∈ b, x < 256) : (lessL a b == Op.bytesLess (strOf (ho a 32)).toList (strOf (ho b 32)).toList) = true := by
  have e : ∀ l : List Nat, (strOf l).toList = l.map UInt8.ofNat := fun l => by rw [ByteArray.toList_eq]; simp [strOf]
  rw [e, e, ho_hexl a ha, ho_hexl b hb, ← less_hexl a b (by omega) h1 h2]
  simp
end Go.Proofs.YtmcjkciicbmdfaaDoor
