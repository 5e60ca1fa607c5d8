import Derived.Test.YtbmknjfgjphfbaaGreatDoorCb
import Derived.Test.YtbmknjfgjphfbaaGreatDoorTd
import Derived.Test.YtbmknjfgjphfbaaGreatDoorTa
import Derived.Test.YtbmknjfgjphfbaaGreatDoorZ22
namespace Go.Proofs.YtbmknjfgjphfbaaGreatDoor
set_option maxRecDepth 100000
def bdC : List UInt8 := [32, 100, 111, 32, 49, 32, 117, 110, 100, 111, 32, 50]
def lnC (i : Nat) : List UInt8 := nmE i ++ [32, 100, 111, 32, 49, 32, 117, 110, 100, 111, 32, 50, 10]
def catA (n : Nat) : List UInt8 := (List.range n).flatMap lnC
def catB (k n : Nat) : List UInt8 := (List.range n).flatMap fun i => if i = k then [] else lnC i
def catZ (k n : Nat) : List UInt8 := (List.range n).flatMap fun i => if i = k then [122, 122, 10] else lnC i
def nmO (o : C.Off) : List UInt8 := o.name.data.toList
/-- a line that is an entry of the name nm -/
def chk (l nm : List UInt8) : Bool := match C.splitP l 0 with
  | [] => false
  | w :: ws => w.1 == nm && C.nameB (C.nats (C.str nm)) && match C.entryF ws 1 [] (C.initO nm) with
    | .error _ => false
    | .ok o => o.name.data.toList == nm && C.rightB o
theorem words_fst : ∀ (l cur : List UInt8) (i j : Nat), (C.wordsF cur i l).map Prod.fst = (C.wordsF cur j l).map Prod.fst
  | [], cur, i, j => by unfold C.wordsF; split <;> rfl
  | c :: cs, cur, i, j => by
    unfold C.wordsF
    split
    · split
      · exact words_fst cs [] _ _
      · rw [List.map_cons, List.map_cons, words_fst cs [] (i + 1) (j + 1)]
    · exact words_fst cs _ _ _
theorem entry_fst : ∀ (ws ws' : List C.Wd) (n : Nat) (u : List (List UInt8)) (o x : C.Off), ws.map Prod.fst = ws'.map Prod.fst → C.entryF ws n u o = .ok x → C.entryF ws' n u o = .ok x
  | [], ws', n, u, o, x, h, hx => by
    have : ws' = [] := by simpa using h.symm
    rw [this]; exact hx
  | [a], ws', n, u, o, x, h, hx => by simp [C.entryF] at hx
  | k :: v :: r, ws', n, u, o, x, h, hx => by
    match ws', h with
    | [], h => simp at h
    | [_], h => simp at h
    | k' :: v' :: r', h =>
      simp only [List.map_cons, List.cons.injEq] at h
      obtain ⟨h1, h2, h3⟩ := h
      unfold C.entryF at hx ⊢
      rw [h1, h2] at hx
      split at hx
      · cases hx
      · rename_i hc
        rw [if_neg hc]
        split at hx
        · cases hx
        · rename_i o' ho
          try rw [ho]
          exact entry_fst r r' _ _ _ _ h3 hx
theorem line_ok (l nm : List UInt8) (h : chk l nm = true) (a : Nat) (acc : List C.Off) (hn : nm ∉ acc.map nmO) (hl : acc.length ≠ 256) : ∃ o, C.lineP a l acc = .ok (acc ++ [o]) ∧ nmO o = nm ∧ C.rightB o = true := by
  unfold chk at h
  split at h
  · cases h
  · rename_i w ws hs
    simp only [Bool.and_eq_true, beq_iff_eq] at h
    obtain ⟨⟨h1, h2⟩, h3⟩ := h
    split at h3
    · cases h3
    · rename_i o ho
      simp only [Bool.and_eq_true, beq_iff_eq] at h3
      have hf := words_fst (C.uncomment l) [] 0 a
      have hs' : C.wordsF [] 0 (C.uncomment l) = w :: ws := hs
      rw [hs'] at hf
      unfold C.lineP C.splitP
      cases hq : C.wordsF [] a (C.uncomment l) with
      | nil => rw [hq] at hf; simp at hf
      | cons w' ws' =>
        rw [hq] at hf
        simp only [List.map_cons, List.cons.injEq] at hf
        have e : w'.1 = nm := hf.1.symm.trans h1
        have he := entry_fst ws ws' 1 [] (C.initO nm) o hf.2 ho
        simp only [e]
        rw [if_neg (by rw [h2]; decide), if_neg (show nm ∉ acc.map (fun o => o.name.data.toList) from hn), if_neg hl, he]
        exact ⟨o, rfl, h3.1, h3.2⟩
theorem pieces_line : ∀ (l cur : List UInt8) (start : Nat) (rest : List UInt8), 10 ∉ l → C.pieces start cur (l ++ 10 :: rest) = (start, cur ++ l) :: C.pieces (start + (cur ++ l).length + 1) [] rest
  | [], cur, start, rest, _ => by simp [C.pieces]
  | c :: cs, cur, start, rest, h => by
    have hc : c ≠ 10 := fun e => h (by rw [e]; simp)
    rw [List.cons_append, C.pieces, if_neg hc, pieces_line cs (cur ++ [c]) start rest (fun e => h (List.mem_cons_of_mem _ e))]
    simp
theorem parse_lines : ∀ (its : List (List UInt8 × List UInt8)) (start : Nat) (acc : List C.Off), (∀ p ∈ its, chk p.1 p.2 = true ∧ 10 ∉ p.1) → (acc.map nmO ++ its.map Prod.snd).Nodup → acc.length + its.length ≤ 256 → ∃ l, C.linesP (C.pieces start [] (its.flatMap fun p => p.1 ++ [10])) acc = .ok (acc ++ l) ∧ l.map nmO = its.map Prod.snd ∧ ∀ o ∈ l, C.rightB o = true
  | [], start, acc, _, _, _ => ⟨[], by simp [C.pieces, C.linesP, C.lineP, C.splitP, C.uncomment, C.wordsF], rfl, by simp⟩
  | p :: its, start, acc, h, hnd, hl => by
    obtain ⟨h1, h2⟩ := h p (by simp)
    have hn : p.2 ∉ acc.map nmO := fun m => (List.nodup_append.1 hnd).2.2 _ m _ (by simp) rfl
    obtain ⟨o, ho, hno, hro⟩ := line_ok p.1 p.2 h1 start acc hn (by simp at hl; omega)
    rw [List.flatMap_cons, List.append_assoc, List.singleton_append, pieces_line p.1 [] start _ h2, List.nil_append, C.linesP]
    simp only [ho]
    obtain ⟨l, e1, e2, e3⟩ := parse_lines its (start + p.1.length + 1) (acc ++ [o]) (fun q hq => h q (List.mem_cons_of_mem _ hq)) (by rw [List.map_append, List.map_cons, List.map_nil, hno]; simpa using hnd) (by simp at hl ⊢; omega)
    exact ⟨o :: l, by rw [e1]; simp, by rw [List.map_cons, hno, e2]; rfl, fun x hx => by rcases List.mem_cons.1 hx with rfl | hx; exact hro; exact e3 x hx⟩
theorem parse_its (its : List (List UInt8 × List UInt8)) (h : ∀ p ∈ its, chk p.1 p.2 = true ∧ 10 ∉ p.1) (hnd : (its.map Prod.snd).Nodup) (hl : its.length ≤ 256) : ∃ l, C.parseP (its.flatMap fun p => p.1 ++ [10]) = .ok l ∧ l.map nmO = its.map Prod.snd ∧ ∀ o ∈ l, C.rightB o = true := by
  obtain ⟨l, e1, e2, e3⟩ := parse_lines its 0 [] h (by simpa using hnd) (by simpa using hl)
  exact ⟨l, by simpa [C.parseP] using e1, e2, e3⟩
theorem rightG_all : ∀ (l : List C.Off) (es seen : List (List UInt8)), (∀ o ∈ l, C.rightB o = true ∧ nmO o ∈ es) → (seen ++ l.map nmO).Nodup → C.rightG l es seen = true
  | [], _, _, _, _ => rfl
  | o :: r, es, seen, h, hnd => by
    obtain ⟨h1, h2⟩ := h o (by simp)
    have hn : o.name.data.toList ∉ seen := fun m => (List.nodup_append.1 hnd).2.2 _ m _ (by simp [nmO]) rfl
    have h2' : o.name.data.toList ∈ es := h2
    rw [C.rightG, h1, decide_eq_true h2', decide_eq_false hn, rightG_all r es _ (fun x hx => h x (List.mem_cons_of_mem _ hx)) (by simpa [nmO] using hnd)]
    rfl
theorem rightG_not : ∀ (l : List C.Off) (es seen : List (List UInt8)), (∃ o ∈ l, nmO o ∉ es) → C.rightG l es seen = false
  | [], _, _, h => by obtain ⟨o, h, _⟩ := h; cases h
  | o :: r, es, seen, h => by
    rw [C.rightG]
    by_cases h2 : o.name.data.toList ∈ es
    · obtain ⟨x, hx, hx2⟩ := h
      rcases List.mem_cons.1 hx with rfl | hx
      · exact absurd h2 hx2
      · rw [rightG_not r es _ ⟨x, hx, hx2⟩, Bool.and_false]
    · rw [decide_eq_false h2]; simp
theorem chk30 : ∀ i, i < 30 → (chk (nmE i ++ bdC) (nmE i) && !decide (10 ∈ nmE i ++ bdC)) = true := by decide +kernel
theorem chkz : chk [122, 122] [122, 122] = true := by decide +kernel
theorem nmE_inj {i k : Nat} (hi : i < 30) (hk : k < 30) (e : nmE i = nmE k) : i = k := by
  rcases Nat.lt_trichotomy i k with h | h | h
  · exact absurd e.symm (nmE_ne h hk)
  · exact h
  · exact absurd e (nmE_ne h hi)
theorem nodup_map {f : Nat → List UInt8} : ∀ (l : List Nat), l.Nodup → (∀ a ∈ l, ∀ b ∈ l, f a = f b → a = b) → (l.map f).Nodup
  | [], _, _ => by simp
  | a :: l, h, hi => by
    rw [List.map_cons, List.nodup_cons]
    rw [List.nodup_cons] at h
    refine ⟨fun m => ?_, nodup_map l h.2 (fun x hx y hy => hi x (List.mem_cons_of_mem _ hx) y (List.mem_cons_of_mem _ hy))⟩
    obtain ⟨b, hb, e⟩ := List.mem_map.1 m
    have := hi b (List.mem_cons_of_mem _ hb) a (by simp) e
    subst this
    exact h.1 hb
theorem catA_ok (n : Nat) (hn : n ≤ 30) : ∃ l, C.parseP (catA n) = .ok l ∧ C.rightP l (nmL n) = true ∧ l.length = n := by
  obtain ⟨l, e1, e2, e3⟩ := parse_its ((List.range n).map fun i => (nmE i ++ bdC, nmE i)) (fun p hp => by
    obtain ⟨i, hi, rfl⟩ := List.mem_map.1 hp
    have := chk30 i (by have := List.mem_range.1 hi; omega)
    simpa using this) (by
    rw [List.map_map]
    exact nodup_map _ List.nodup_range (fun a ha b hb e => nmE_inj (by have := List.mem_range.1 ha; omega) (by have := List.mem_range.1 hb; omega) e)) (by simp; omega)
  have hm : l.map nmO = nmL n := by rw [e2, List.map_map]; rfl
  have hlen : l.length = n := by have := congrArg List.length hm; simpa [nmL_len] using this
  refine ⟨l, ?_, ?_, hlen⟩
  · rw [← e1]
    congr 1
    rw [List.flatMap_map]
    unfold catA
    congr 1
  · unfold C.rightP
    rw [rightG_all l (nmL n) [] (fun o ho => ⟨e3 o ho, by rw [← hm]; exact List.mem_map_of_mem ho⟩) (by
      rw [List.nil_append, hm]
      exact nodup_map _ List.nodup_range (fun a ha b hb e => nmE_inj (by have := List.mem_range.1 ha; omega) (by have := List.mem_range.1 hb; omega) e))]
    rw [nmL_len, hlen]
    simp
theorem catB_ok (k n : Nat) (hn : n ≤ 30) (hk : k < n) : ∃ l, C.parseP (catB k n) = .ok l ∧ C.rightP l (nmL n) = false ∧ l.length ≤ n := by
  obtain ⟨l, e1, e2, e3⟩ := parse_its (((List.range n).filter (· ≠ k)).map fun i => (nmE i ++ bdC, nmE i)) (fun p hp => by
    obtain ⟨i, hi, rfl⟩ := List.mem_map.1 hp
    have := chk30 i (by have := List.mem_range.1 (List.mem_filter.1 hi).1; omega)
    simpa using this) (by
    rw [List.map_map]
    exact nodup_map _ (List.nodup_range.filter _) (fun a ha b hb e => nmE_inj (by have := List.mem_range.1 (List.mem_filter.1 ha).1; omega) (by have := List.mem_range.1 (List.mem_filter.1 hb).1; omega) e)) (by
    have := List.length_filter_le (· ≠ k) (List.range n)
    simp at this ⊢; omega)
  have hlt : ((List.range n).filter (· ≠ k)).length < n := by
    have := List.length_filter_lt_length_iff_exists (p := fun x => decide (x ≠ k)) (l := List.range n)
    have h2 := this.2 ⟨k, List.mem_range.2 hk, by simp⟩
    simpa using h2
  have hlen : l.length = ((List.range n).filter (· ≠ k)).length := by have := congrArg List.length e2; simpa using this
  refine ⟨l, ?_, ?_, by omega⟩
  · rw [← e1]
    congr 1
    rw [List.flatMap_map]
    unfold catB
    have key : ∀ xs : List Nat, xs.flatMap (fun i => if i = k then [] else lnC i) = (xs.filter (· ≠ k)).flatMap fun i => (nmE i ++ bdC) ++ [10] := by
      intro xs
      induction xs with
      | nil => rfl
      | cons x xs ih =>
        rw [List.flatMap_cons, ih]
        by_cases hx : x = k
        · simp [hx]
        · simp [hx, lnC, bdC]
    exact key _
  · unfold C.rightP
    rw [nmL_len, decide_eq_false (by omega), Bool.and_false]
theorem catZ_ok (k n : Nat) (hn : n ≤ 30) (hk : k < n) : ∃ l, C.parseP (catZ k n) = .ok l ∧ C.rightP l (nmL n) = false ∧ l.length ≤ n := by
  obtain ⟨l, e1, e2, e3⟩ := parse_its ((List.range n).map fun i => if i = k then ([122, 122], [122, 122]) else (nmE i ++ bdC, nmE i)) (fun p hp => by
    obtain ⟨i, hi, rfl⟩ := List.mem_map.1 hp
    by_cases hx : i = k
    · rw [if_pos hx]; exact ⟨chkz, by decide⟩
    · rw [if_neg hx]
      have := chk30 i (by have := List.mem_range.1 hi; omega)
      simpa using this) (by
    rw [List.map_map]
    refine nodup_map _ List.nodup_range (fun a ha b hb e => ?_)
    have ha := List.mem_range.1 ha
    have hb := List.mem_range.1 hb
    simp only [Function.comp] at e
    by_cases h1 : a = k <;> by_cases h2 : b = k
    · omega
    · rw [if_pos h1, if_neg h2] at e; simp [nmE] at e
    · rw [if_neg h1, if_pos h2] at e; simp [nmE] at e
    · rw [if_neg h1, if_neg h2] at e; exact nmE_inj (by omega) (by omega) e) (by simp; omega)
  have hlen : l.length = n := by have := congrArg List.length e2; simpa using this
  refine ⟨l, ?_, ?_, by omega⟩
  · rw [← e1]
    congr 1
    rw [List.flatMap_map]
    unfold catZ
    congr 1
    funext i
    by_cases hx : i = k
    · simp [hx]
    · simp [hx, lnC, bdC]
  · unfold C.rightP
    rw [rightG_not l (nmL n) [] ?_, Bool.false_and]
    have hz : [122, 122] ∈ l.map nmO := by
      rw [e2, List.map_map]
      exact List.mem_map.2 ⟨k, List.mem_range.2 hk, by simp⟩
    obtain ⟨o, ho, ho2⟩ := List.mem_map.1 hz
    refine ⟨o, ho, fun m => ?_⟩
    rw [ho2] at m
    obtain ⟨i, _, e⟩ := List.mem_map.1 m
    simp [nmE] at e
end Go.Proofs.YtbmknjfgjphfbaaGreatDoor
namespace Go.Proofs.YtbmknjfgjphfbaaGreatDoor
set_option maxRecDepth 100000
theorem run_1:runP false (srcP 1)=.ok (treP 1):=by kernel_rfl
theorem run_2:runP false (srcP 2)=.ok (treP 2):=by kernel_rfl
theorem run_3:runP false (srcP 3)=.ok (treP 3):=by kernel_rfl
theorem run_4:runP false (srcP 4)=.ok (treP 4):=by kernel_rfl
theorem run_5:runP false (srcP 5)=.ok (treP 5):=by kernel_rfl
theorem run_6:runP false (srcP 6)=.ok (treP 6):=by kernel_rfl
theorem run_7:runP false (srcP 7)=.ok (treP 7):=by kernel_rfl
theorem run_8:runP false (srcP 8)=.ok (treP 8):=by kernel_rfl
theorem run_9:runP false (srcP 9)=.ok (treP 9):=by kernel_rfl
theorem run_10:runP false (srcP 10)=.ok (treP 10):=by kernel_rfl
theorem run_11:runP false (srcP 11)=.ok (treP 11):=by kernel_rfl
theorem run_12:runP false (srcP 12)=.ok (treP 12):=by kernel_rfl
theorem run_13:runP false (srcP 13)=.ok (treP 13):=by kernel_rfl
theorem run_14:runP false (srcP 14)=.ok (treP 14):=by kernel_rfl
theorem run_15:runP false (srcP 15)=.ok (treP 15):=by kernel_rfl
theorem run_16:runP false (srcP 16)=.ok (treP 16):=by kernel_rfl
theorem run_17:runP false (srcP 17)=.ok (treP 17):=by kernel_rfl
theorem run_18:runP false (srcP 18)=.ok (treP 18):=by kernel_rfl
theorem run_19:runP false (srcP 19)=.ok (treP 19):=by kernel_rfl
theorem run_20:runP false (srcP 20)=.ok (treP 20):=by kernel_rfl
theorem run_21:runP false (srcP 21)=.ok (treP 21):=by kernel_rfl
theorem run_22:runP false (srcP 22)=.ok (treP 22):=by kernel_rfl
theorem run_23:runP false (srcP 23)=.ok (treP 23):=by kernel_rfl
theorem run_24:runP false (srcP 24)=.ok (treP 24):=by kernel_rfl
theorem run_25:runP false (srcP 25)=.ok (treP 25):=by kernel_rfl
theorem run_26:runP false (srcP 26)=.ok (treP 26):=by kernel_rfl
theorem run_27:runP false (srcP 27)=.ok (treP 27):=by kernel_rfl
theorem run_28:runP false (srcP 28)=.ok (treP 28):=by kernel_rfl
theorem run_29:runP false (srcP 29)=.ok (treP 29):=by kernel_rfl
theorem run_30:runP false (srcP 30)=.ok (treP 30):=by kernel_rfl
theorem run_all:∀n,1≤n→n≤30→runP false (srcP n)=.ok (treP n)
 |0,_,_=>by omega
 |1,_,_=>run_1
 |2,_,_=>run_2
 |3,_,_=>run_3
 |4,_,_=>run_4
 |5,_,_=>run_5
 |6,_,_=>run_6
 |7,_,_=>run_7
 |8,_,_=>run_8
 |9,_,_=>run_9
 |10,_,_=>run_10
 |11,_,_=>run_11
 |12,_,_=>run_12
 |13,_,_=>run_13
 |14,_,_=>run_14
 |15,_,_=>run_15
 |16,_,_=>run_16
 |17,_,_=>run_17
 |18,_,_=>run_18
 |19,_,_=>run_19
 |20,_,_=>run_20
 |21,_,_=>run_21
 |22,_,_=>run_22
 |23,_,_=>run_23
 |24,_,_=>run_24
 |25,_,_=>run_25
 |26,_,_=>run_26
 |27,_,_=>run_27
 |28,_,_=>run_28
 |29,_,_=>run_29
 |30,_,_=>run_30
 |n+31,_,h=>by omega
theorem right_all:∀n,n<31→rightB (treP n)=true:=by decide +kernel
end Go.Proofs.YtbmknjfgjphfbaaGreatDoor
