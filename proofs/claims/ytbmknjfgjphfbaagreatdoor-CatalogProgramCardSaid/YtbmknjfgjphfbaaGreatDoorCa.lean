import Derived.Lib.ItoaNum
import Derived.Test.YtbmknjfgjphfbaaGreatDoorRows
import Derived.Test.YtbmknjfgjphfbaaGreatDoorZ19
import Derived.WalkKit
import Derived.WalkSpells
import Derived.WalkLawsBesides
import Derived.Lib.Hide
import Derived.Deep.DeepCutAuto
import Derived.Laws.RangeAny
import Derived.Lib.Bytealg
import Derived.Maps.OwnSet
import Derived.Maps.OwnOps
import Derived.StringKeys
namespace Go.Proofs.YtbmknjfgjphfbaaGreatDoor.C
/-- an entry -/
structure Off where
  name : ByteArray
  do_ : Int
  undo : Int
  due : Int
  part : Int
  amend : Int
/-- a byte of a name -/
def nameC (c : Nat) : Bool := c == 95 || (decide (48 ≤ c) && decide (c ≤ 57)) || (decide (97 ≤ c) && decide (c ≤ 122)) || (decide (65 ≤ c) && decide (c ≤ 90))
def nats (s : ByteArray) : List Nat := s.data.toList.map UInt8.toNat
def nameB (l : List Nat) : Bool := decide (1 ≤ l.length) && decide (l.length ≤ 100) && decide (97 ≤ l.getD 0 0) && decide (l.getD 0 0 ≤ 122) && l.all nameC
/-- num.Parse: the negated absolute value -/
def accN : List UInt8 → Int → Option Int
  | [], n => some n
  | c :: cs, n => if c.toNat < 48 ∨ 57 < c.toNat then none else if n < (-9223372036854775808 + ((c.toNat : Int) - 48)).tdiv 10 then none else accN cs (n * 10 - ((c.toNat : Int) - 48))
def finN (neg : Bool) (n lo hi : Int) : Option Int :=
  if neg = false ∧ n = -9223372036854775808 then none else
  if (if neg then n else -n) < lo ∨ hi < (if neg then n else -n) then none else some (if neg then n else -n)
def numP (l : List UInt8) (lo hi : Int) : Option Int :=
  if l.head? = some 45 then
    (if l.tail = [] ∨ l.tail.head? = some 48 then none else (accN l.tail 0).bind fun n => finN true n lo hi)
  else if l = [] ∨ (l.head? = some 48 ∧ l ≠ [48]) then none else (accN l 0).bind fun n => finN false n lo hi
def str (l : List UInt8) : ByteArray := ⟨l.toArray⟩
abbrev Wd := List UInt8 × Nat
def blankC (c : UInt8) : Bool := c == 32 || c == 9 || c == 13
def uncomment (l : List UInt8) : List UInt8 := l.takeWhile (· != 35)
/-- cur: the word under way; i: the offset of what follows -/
def wordsF (cur : List UInt8) (i : Nat) : List UInt8 → List Wd
  | [] => if cur = [] then [] else [(cur, i - cur.length)]
  | c :: cs => if blankC c then (if cur = [] then wordsF [] (i + 1) cs else (cur, i - cur.length) :: wordsF [] (i + 1) cs) else wordsF (cur ++ [c]) (i + 1) cs
def splitP (l : List UInt8) (i : Nat) : List Wd := wordsF [] i (uncomment l)
def kDo : List UInt8 := [100, 111]
def kUndo : List UInt8 := [117, 110, 100, 111]
def kPart : List UInt8 := [112, 97, 114, 116]
def kAmend : List UInt8 := [97, 109, 101, 110, 100]
def kDue : List UInt8 := [100, 117, 101]
def costP (v : List UInt8) : Option Int := if v = [45] then some (-1) else numP v 0 1048576
def setKey (k v : List UInt8) (o : Off) : Option Off :=
  if k = kDo then (costP v).map fun n => { o with do_ := n }
  else if k = kUndo then (costP v).map fun n => { o with undo := n }
  else if k = kPart then (costP v).map fun n => { o with part := n }
  else if k = kAmend then (costP v).map fun n => { o with amend := n }
  else (numP v 0 1073741824).map fun n => { o with due := n }
def keyB (k : List UInt8) : Bool := k == kDo || k == kUndo || k == kPart || k == kAmend || k == kDue
def entryF : List Wd → Nat → List (List UInt8) → Off → Except Nat Off
  | [], _, _, o => .ok o
  | [_], i, _, _ => .error i
  | k :: v :: r, i, used, o =>
    if keyB k.1 = false ∨ k.1 ∈ used then .error i else
    match setKey k.1 v.1 o with
    | none => .error (i + 1)
    | some o' => entryF r (i + 2) (k.1 :: used) o'
def initO (nm : List UInt8) : Off := ⟨str nm, 0, -1, 0, -1, -1⟩
def lineP (at_ : Nat) (l : List UInt8) (acc : List Off) : Except (Int × Nat) (List Off) :=
  match splitP l at_ with
  | [] => .ok acc
  | w :: ws =>
    if nameB (nats (str w.1)) = false then .error (2, w.2)
    else if w.1 ∈ acc.map (fun o => o.name.data.toList) then .error (4, w.2)
    else if acc.length = 256 then .error (3, w.2)
    else match entryF ws 1 [] (initO w.1) with
    | .error i => .error (2, ((w :: ws).getD i ([], 0)).2)
    | .ok o => .ok (acc ++ [o])
def linesP : List (Nat × List UInt8) → List Off → Except (Int × Nat) (List Off)
  | [], acc => .ok acc
  | x :: xs, acc => match lineP x.1 x.2 acc with
    | .error e => .error e
    | .ok acc' => linesP xs acc'
def pieces (start : Nat) (cur : List UInt8) : List UInt8 → List (Nat × List UInt8)
  | [] => [(start, cur)]
  | c :: cs => if c = 10 then (start, cur) :: pieces (start + cur.length + 1) [] cs else pieces start (cur ++ [c]) cs
def parseP (l : List UInt8) : Except (Int × Nat) (List Off) := linesP (pieces 0 [] l) []
def costT (n : Int) : List UInt8 := if n = -1 then [45] else Lib.itoa n
def lineW (o : Off) : List UInt8 :=
  o.name.data.toList ++ [32, 100, 111, 32] ++ costT o.do_ ++ [32, 117, 110, 100, 111, 32] ++ costT o.undo ++ ([32, 100, 117, 101, 32] ++ Lib.itoa o.due ++ [32, 112, 97, 114, 116, 32] ++ costT o.part) ++ ([32, 97, 109, 101, 110, 100, 32] ++ costT o.amend ++ [10])
def costB (n : Int) : Bool := decide (-1 ≤ n) && decide (n ≤ 1048576)
def rightB (o : Off) : Bool := costB o.do_ && costB o.undo && costB o.part && costB o.amend && nameB (nats o.name) && decide (0 ≤ o.due) && decide (o.due ≤ 1073741824)
def writeF : List Off → List (List UInt8) → Option (List UInt8)
  | [], _ => some []
  | o :: r, seen => if rightB o = false ∨ o.name.data.toList ∈ seen then none else (writeF r (seen ++ [o.name.data.toList])).map (lineW o ++ ·)
def writeP (l : List Off) : List UInt8 := if 256 < l.length then [] else (writeF l []).getD []

/-! ### numbers -/
theorem tdiv_le (d : Int) (h : 0 ≤ d) (h' : d ≤ 9) : (-9223372036854775808 + d).tdiv 10 ≤ -922337203685477579 := by
  have : d = 0 ∨ d = 1 ∨ d = 2 ∨ d = 3 ∨ d = 4 ∨ d = 5 ∨ d = 6 ∨ d = 7 ∨ d = 8 ∨ d = 9 := by omega
  rcases this with rfl | rfl | rfl | rfl | rfl | rfl | rfl | rfl | rfl | rfl <;> decide
theorem accN_append (a b : List UInt8) : ∀ n, accN (a ++ b) n = (accN a n).bind (accN b) := by
  induction a with
  | nil => intro n; rfl
  | cons c cs ih =>
    intro n
    simp only [List.cons_append, accN]
    split
    · rfl
    · split
      · rfl
      · exact ih _
theorem digit_nat (d : Nat) (h : d < 10) : (UInt8.ofNat (48 + d)).toNat = 48 + d := by
  simp; omega
theorem accN_dig (d : Nat) (h : d < 10) (n : Int) (hn : -922337203685477579 ≤ n) : accN [UInt8.ofNat (48 + d)] n = some (n * 10 - d) := by
  simp only [accN, digit_nat d h]
  rw [if_neg (by omega), if_neg (by have := tdiv_le (((48 + d : Nat) : Int) - 48) (by omega) (by omega); omega)]
  congr 1; omega
theorem accN_dec (u : Nat) (h : u ≤ 9223372036854775790) : accN (Lib.decDigits u) 0 = some (-(u : Int)) := by
  induction u using Nat.strongRecOn with
  | _ u ih =>
    rw [Lib.decDigits]
    split
    · rename_i hu
      rw [accN_dig u hu 0 (by omega)]; congr 1; omega
    · rename_i hu
      rw [accN_append, ih (u / 10) (by omega) (by omega)]
      simp only [Option.bind_some]
      rw [accN_dig (u % 10) (by omega) _ (by omega)]
      congr 1; omega
theorem dec_ne (u : Nat) : Lib.decDigits u ≠ [] := by
  rw [Lib.decDigits]; split <;> simp
theorem dec_dig (u : Nat) : ∀ c ∈ Lib.decDigits u, 48 ≤ c.toNat ∧ c.toNat ≤ 57 := by
  induction u using Nat.strongRecOn with
  | _ u ih =>
    rw [Lib.decDigits]
    split
    · rename_i hu
      intro c hc
      rw [List.mem_singleton] at hc
      subst hc
      rw [digit_nat u hu]; omega
    · rename_i hu
      intro c hc
      rw [List.mem_append, List.mem_singleton] at hc
      rcases hc with hc | rfl
      · exact ih _ (by omega) c hc
      · rw [digit_nat _ (by omega)]; omega
theorem dec_head (u : Nat) (h : 0 < u) : (Lib.decDigits u).head? ≠ some 48 := by
  induction u using Nat.strongRecOn with
  | _ u ih =>
    rw [Lib.decDigits]
    split
    · rename_i hu
      intro he
      simp only [List.head?_cons, Option.some.injEq] at he
      have := congrArg UInt8.toNat he
      rw [digit_nat u hu] at this
      simp at this; omega
    · rename_i hu
      have hne := dec_ne (u / 10)
      rw [List.head?_append]
      cases hh : (Lib.decDigits (u / 10)).head? with
      | none => exact absurd (List.head?_eq_none_iff.1 hh) hne
      | some c =>
        have := ih (u / 10) (by omega) (by omega)
        rw [hh] at this
        simpa using this
theorem numP_dec (u : Nat) (hi : Int) (h : (u : Int) ≤ hi) (hu : u ≤ 9223372036854775790) : numP (Lib.decDigits u) 0 hi = some (u : Int) := by
  have hne := dec_ne u
  have hd := dec_dig u
  have h45 : (Lib.decDigits u).head? ≠ some 45 := by
    intro he
    have := hd 45 (List.mem_of_mem_head? he)
    simp at this
  unfold numP
  rw [if_neg h45, if_neg, accN_dec u hu]
  · simp only [Option.bind_some, finN]
    rw [if_neg (by omega)]
    simp; omega
  · rintro (he | ⟨he, h2⟩)
    · exact hne he
    · rcases Nat.eq_zero_or_pos u with rfl | hp
      · exact h2 (by rw [Lib.decDigits]; simp)
      · exact dec_head u hp he
theorem numP_itoa (n hi : Int) (h0 : 0 ≤ n) (h : n ≤ hi) (hu : n ≤ 9223372036854775790) : numP (Lib.itoa n) 0 hi = some n := by
  obtain ⟨u, rfl⟩ := Int.eq_ofNat_of_zero_le h0
  unfold Lib.itoa
  rw [if_neg (by omega), Int.toNat_natCast]
  exact numP_dec u hi h (by omega)
theorem numP_range {l : List UInt8} {lo hi n : Int} (h : numP l lo hi = some n) : lo ≤ n ∧ n ≤ hi := by
  have fin : ∀ (neg : Bool) (m : Int), finN neg m lo hi = some n → lo ≤ n ∧ n ≤ hi := by
    intro neg m h
    unfold finN at h
    generalize (if neg = true then m else -m) = k at h
    by_cases h1 : neg = false ∧ m = -9223372036854775808
    · rw [if_pos h1] at h; cases h
    · rw [if_neg h1] at h
      by_cases h2 : k < lo ∨ hi < k
      · rw [if_pos h2] at h; cases h
      · rw [if_neg h2] at h; injection h with h; omega
  unfold numP at h
  split at h
  · split at h
    · cases h
    · obtain ⟨m, _, hm⟩ := Option.bind_eq_some_iff.1 h
      exact fin _ _ hm
  · split at h
    · cases h
    · obtain ⟨m, _, hm⟩ := Option.bind_eq_some_iff.1 h
      exact fin _ _ hm
theorem costP_range {l : List UInt8} {n : Int} (h : costP l = some n) : costB n = true := by
  unfold costP at h
  split at h
  · cases h; decide
  · have := numP_range h
    simp [costB]; omega
theorem costP_costT (n : Int) (h : costB n = true) : costP (costT n) = some n := by
  simp [costB] at h
  unfold costT
  split
  · rename_i e; subst e; decide
  · rename_i e
    unfold costP
    rw [if_neg, numP_itoa n _ (by omega) (by omega) (by omega)]
    intro he
    unfold Lib.itoa at he
    rw [if_neg (by omega)] at he
    have := dec_dig n.toNat 45 (by rw [he]; simp)
    simp at this
end Go.Proofs.YtbmknjfgjphfbaaGreatDoor.C
namespace Go.Proofs.YtbmknjfgjphfbaaGreatDoor.C
open Go.RowKit
def clampZ (x lo hi : Int) : Int := if x < lo then lo else if x > hi then hi else x
theorem clamp_any (x lo hi : Int) (w : World) :
    Calls Tryz.prog 23 #[.int .i64 x, .int .i64 lo, .int .i64 hi] w fun e w' => e = .returned (.int .i64 (clampZ x lo hi)) ∧ w = w' := by
  go_enter Tryz.func23, Tryz.ntmps23
  go_wp2
  all_goals go_ret
  all_goals (refine ⟨?_, rfl⟩; unfold clampZ; repeat' split) <;> first | rfl | omega
def Off.cells (o : Off) : Array Value := #[.string o.name, .int .i64 o.do_, .int .i64 o.undo, .int .i64 o.due, .int .i64 o.part, .int .i64 o.amend]
def canZ (o : Off) (tick clock : Int) : Bool := o.undo != -1 && (clampZ o.due 0 1073741824 == 0 || decide (clampZ clock 0 1073741824 ≤ clampZ tick 0 1073741824 + clampZ o.due 0 1073741824))
theorem clampZ_le (x : Int) : 0 ≤ clampZ x 0 1073741824 ∧ clampZ x 0 1073741824 ≤ 1073741824 := by unfold clampZ; split <;> (try split) <;> omega
theorem can_any (o : Off) (tick clock : Int) (w : World) :
    Calls Tryz.prog 11 #[.agg o.cells, .int .i64 tick, .int .i64 clock] w fun e w' => e = .returned (.bool (canZ o tick clock)) ∧ Below w.heap.size w w' := by
  unfold Off.cells
  have hb : ∀ ob, Below w.heap.size w (w.alloc ob) := fun ob => (Below.refl _ _).alloc (Nat.le_refl _) _
  have h1 := clampZ_le tick
  have h2 := clampZ_le clock
  have h3 := clampZ_le o.due
  have hR : canZ o tick clock = (o.undo != -1 && (clampZ o.due 0 1073741824 == 0 || decide (clampZ clock 0 1073741824 ≤ clampZ tick 0 1073741824 + clampZ o.due 0 1073741824))) := rfl
  have HR := Lib.hid hR
  clear hR
  go_enter Tryz.func11, Tryz.ntmps11
  go_wp2_with (first
    | (go_at_call 23; refine (clamp_any _ _ _ _).mono ?_; rintro e w' ⟨rfl, rfl⟩))
  all_goals go_ret
  all_goals refine ⟨?_, hb _⟩
  all_goals rw [HR.out]
  all_goals first | rfl | (simp_all; done) | (rename_i h; simp [h])
theorem nats_length (s : ByteArray) : (nats s).length = s.size := by simp [nats]
theorem nats_getD (s : ByteArray) (k : Nat) (h : k < s.size) : (nats s).getD k 0 = s[k].toNat := by
  have h' : k < s.data.toList.length := by simpa using h
  simp only [nats, List.getD, List.getElem?_map, List.getElem?_eq_getElem h', Option.map_some, Option.getD_some]
  rfl
end Go.Proofs.YtbmknjfgjphfbaaGreatDoor.C
namespace Go.Proofs.YtbmknjfgjphfbaaGreatDoor.C
open Go.RowKit
theorem nameB_short (s : ByteArray) (h : s.size < 1) : nameB (nats s) = false := by
  simp only [nameB, nats_length, decide_eq_false (show ¬ 1 ≤ s.size by omega), Bool.false_and]
theorem nameB_long (s : ByteArray) (h : 100 < s.size) : nameB (nats s) = false := by
  simp only [nameB, nats_length, decide_eq_false (show ¬ s.size ≤ 100 by omega), Bool.false_and, Bool.and_false]
theorem nameB_first (s : ByteArray) (h : ¬ (97 ≤ (nats s).getD 0 0 ∧ (nats s).getD 0 0 ≤ 122)) : nameB (nats s) = false := by
  unfold nameB
  by_cases a : 97 ≤ (nats s).getD 0 0
  · rw [show decide ((nats s).getD 0 0 ≤ 122) = false by simp only [decide_eq_false_iff_not]; omega]; simp
  · rw [show decide (97 ≤ (nats s).getD 0 0) = false by simp only [decide_eq_false_iff_not]; exact a]; simp
theorem nameB_bad (s : ByteArray) (k : Nat) (hk : k < s.size) (h : nameC ((nats s).getD k 0) = false) : nameB (nats s) = false := by
  have : (nats s).all nameC = false := by
    rw [List.all_eq_false]
    have hk' : k < (nats s).length := by rw [nats_length]; exact hk
    exact ⟨(nats s)[k], List.getElem_mem hk', by simpa [List.getD, hk'] using h⟩
  rw [nameB, this, Bool.and_false]
theorem nameB_good (s : ByteArray) (h1 : 1 ≤ s.size) (h2 : s.size ≤ 100) (h3 : 97 ≤ (nats s).getD 0 0) (h4 : (nats s).getD 0 0 ≤ 122) (h : ∀ j, j < s.size → nameC ((nats s).getD j 0) = true) : nameB (nats s) = true := by
  have : (nats s).all nameC = true := by
    rw [List.all_eq_true]
    intro x hx
    obtain ⟨i, hi, rfl⟩ := List.getElem_of_mem hx
    have := h i (by rw [← nats_length]; exact hi)
    simpa [List.getD, hi] using this
  rw [nameB, this, nats_length, decide_eq_true h1, decide_eq_true h2, decide_eq_true h3, decide_eq_true h4]; rfl
theorem isName_short (s : ByteArray) (h : s.size < 1) (w : World) :
    Calls Tryz.prog 16 #[.string s] w fun e w' => e = .returned (.bool (nameB (nats s))) ∧ w = w' := by
  rw [nameB_short s h]
  have hd : decide ((s.size : Int) < 1) = true := by simp; omega
  clear h
  go_enter Tryz.func16, Tryz.ntmps16
  go_wp2_with fail
  go_ret
  exact ⟨rfl, rfl⟩
theorem isName_long (s : ByteArray) (h : 100 < s.size) (w : World) :
    Calls Tryz.prog 16 #[.string s] w fun e w' => e = .returned (.bool (nameB (nats s))) ∧ w = w' := by
  rw [nameB_long s h]
  have hd : decide ((s.size : Int) < 1) = false := by simp; omega
  have hd2 : decide (100 < (s.size : Int)) = true := by simp; omega
  clear h
  go_enter Tryz.func16, Tryz.ntmps16
  go_wp2_with fail
  go_ret
  exact ⟨rfl, rfl⟩
end Go.Proofs.YtbmknjfgjphfbaaGreatDoor.C
namespace Go.Proofs.YtbmknjfgjphfbaaGreatDoor.C
open Go.RowKit
set_option maxHeartbeats 1000000 in
theorem isName_mid (s : ByteArray) (h : 1 ≤ s.size) (h2 : s.size ≤ 100) (w : World) (c : Nat) (hc : c = s[0].toNat) (hlo : 97 ≤ c) (hhi : c ≤ 122) :
    Calls Tryz.prog 16 #[.string s] w fun e w' => e = .returned (.bool (nameB (nats s))) ∧ w = w' := by
  have hd : decide ((s.size : Int) < 1) = false := decide_eq_false (by omega)
  have hd2 : decide ((100 : Int) < (s.size : Int)) = false := decide_eq_false (by omega)
  have hd3 : decide ((s[0].toNat : Int) < 97) = false := decide_eq_false (by omega)
  have hd4 : decide ((122 : Int) < (s[0].toNat : Int)) = false := decide_eq_false (by omega)
  have H := Lib.hid hc
  clear hc
  go_enter Tryz.func16, Tryz.ntmps16
  go_upto_region 4 with (fail)
  go_loopw [25] (fun i wr => ∃ k : Nat, k ≤ s.size ∧ i = .int .i64 k ∧ Hid (∀ j, j < k → nameC ((nats s).getD j 0) = true) ∧ wr = w) (fun i _ => s.size - (intOf i).toNat)
  case atStart => exact ⟨0, by omega, rfl, fun j hj => by omega, rfl⟩
  case round =>
    obtain ⟨k, hk, rfl, hall, rfl⟩ := hrel
    by_cases hlt : k < s.size
    · have hk1 : decide ((k : Int) < s.size) = true := decide_eq_true (by omega)
      have hge := Lib.hid (nats_getD s k hlt)
      have fin : Hid (∀ x, nameC ((nats s).getD k 0) = x → x = true → ∀ j, j < k + 1 → nameC ((nats s).getD j 0) = true) := fun x hx hy j hj => by
        by_cases e : j = k
        · subst e; rw [hx, hy]
        · exact hall.out j (by omega)
      have hcl : (s[k].toNat < 48) ∨ (48 ≤ s[k].toNat ∧ s[k].toNat ≤ 57) ∨ (58 ≤ s[k].toNat ∧ s[k].toNat ≤ 64) ∨ (65 ≤ s[k].toNat ∧ s[k].toNat ≤ 90) ∨ (91 ≤ s[k].toNat ∧ s[k].toNat ≤ 96 ∧ s[k].toNat ≠ 95) ∨ (s[k].toNat = 95) ∨ (97 ≤ s[k].toNat ∧ s[k].toNat ≤ 122) ∨ (123 ≤ s[k].toNat) := by omega
      rcases hcl with hcl | hcl | hcl | hcl | hcl | hcl | hcl | hcl
      · have hnc : nameC s[k].toNat = false := by simp [nameC]; omega
        have q0 : ((s[k].toNat : Int) != 95) = true := by simp; omega
        have q1 : (decide ((s[k].toNat : Int) < 48)) = true := by simp; omega
        have q2 : (decide ((57 : Int) < s[k].toNat)) = false := by simp; omega
        have q3 : (decide ((s[k].toNat : Int) < 97)) = true := by simp; omega
        have q4 : (decide ((122 : Int) < s[k].toNat)) = false := by simp; omega
        have q5 : (decide ((s[k].toNat : Int) < 65)) = true := by simp; omega
        have q6 : (decide ((90 : Int) < s[k].toNat)) = false := by simp; omega
        rw [← hge.out] at hnc
        have HN := Lib.hid hnc
        clear hnc hcl
        go_wp2_with fail
        go_ret
        exact ⟨by rw [nameB_bad s k hlt HN.out]; rfl, rfl⟩
      · have hnc : nameC s[k].toNat = true := by simp [nameC]; omega
        have q0 : ((s[k].toNat : Int) != 95) = true := by simp; omega
        have q1 : (decide ((s[k].toNat : Int) < 48)) = false := by simp; omega
        have q2 : (decide ((57 : Int) < s[k].toNat)) = false := by simp; omega
        have q3 : (decide ((s[k].toNat : Int) < 97)) = true := by simp; omega
        have q4 : (decide ((122 : Int) < s[k].toNat)) = false := by simp; omega
        have q5 : (decide ((s[k].toNat : Int) < 65)) = true := by simp; omega
        have q6 : (decide ((90 : Int) < s[k].toNat)) = false := by simp; omega
        rw [← hge.out] at hnc
        have HN := Lib.hid hnc
        clear hnc hcl
        go_wp2_with fail
        go_roundw
        case rel => exact ⟨k + 1, by omega, by go_num, fin.out _ HN.out rfl, trivial⟩
        case measure => simp [intOf]; omega
      · have hnc : nameC s[k].toNat = false := by simp [nameC]; omega
        have q0 : ((s[k].toNat : Int) != 95) = true := by simp; omega
        have q1 : (decide ((s[k].toNat : Int) < 48)) = false := by simp; omega
        have q2 : (decide ((57 : Int) < s[k].toNat)) = true := by simp; omega
        have q3 : (decide ((s[k].toNat : Int) < 97)) = true := by simp; omega
        have q4 : (decide ((122 : Int) < s[k].toNat)) = false := by simp; omega
        have q5 : (decide ((s[k].toNat : Int) < 65)) = true := by simp; omega
        have q6 : (decide ((90 : Int) < s[k].toNat)) = false := by simp; omega
        rw [← hge.out] at hnc
        have HN := Lib.hid hnc
        clear hnc hcl
        go_wp2_with fail
        go_ret
        exact ⟨by rw [nameB_bad s k hlt HN.out]; rfl, rfl⟩
      · have hnc : nameC s[k].toNat = true := by simp [nameC]; omega
        have q0 : ((s[k].toNat : Int) != 95) = true := by simp; omega
        have q1 : (decide ((s[k].toNat : Int) < 48)) = false := by simp; omega
        have q2 : (decide ((57 : Int) < s[k].toNat)) = true := by simp; omega
        have q3 : (decide ((s[k].toNat : Int) < 97)) = true := by simp; omega
        have q4 : (decide ((122 : Int) < s[k].toNat)) = false := by simp; omega
        have q5 : (decide ((s[k].toNat : Int) < 65)) = false := by simp; omega
        have q6 : (decide ((90 : Int) < s[k].toNat)) = false := by simp; omega
        rw [← hge.out] at hnc
        have HN := Lib.hid hnc
        clear hnc hcl
        go_wp2_with fail
        go_roundw
        case rel => exact ⟨k + 1, by omega, by go_num, fin.out _ HN.out rfl, trivial⟩
        case measure => simp [intOf]; omega
      · have hnc : nameC s[k].toNat = false := by simp [nameC]; omega
        have q0 : ((s[k].toNat : Int) != 95) = true := by simp; omega
        have q1 : (decide ((s[k].toNat : Int) < 48)) = false := by simp; omega
        have q2 : (decide ((57 : Int) < s[k].toNat)) = true := by simp; omega
        have q3 : (decide ((s[k].toNat : Int) < 97)) = true := by simp; omega
        have q4 : (decide ((122 : Int) < s[k].toNat)) = false := by simp; omega
        have q5 : (decide ((s[k].toNat : Int) < 65)) = false := by simp; omega
        have q6 : (decide ((90 : Int) < s[k].toNat)) = true := by simp; omega
        rw [← hge.out] at hnc
        have HN := Lib.hid hnc
        clear hnc hcl
        go_wp2_with fail
        go_ret
        exact ⟨by rw [nameB_bad s k hlt HN.out]; rfl, rfl⟩
      · have hnc : nameC s[k].toNat = true := by simp [nameC]; omega
        have q0 : ((s[k].toNat : Int) != 95) = false := by simp; omega
        have q1 : (decide ((s[k].toNat : Int) < 48)) = false := by simp; omega
        have q2 : (decide ((57 : Int) < s[k].toNat)) = true := by simp; omega
        have q3 : (decide ((s[k].toNat : Int) < 97)) = true := by simp; omega
        have q4 : (decide ((122 : Int) < s[k].toNat)) = false := by simp; omega
        have q5 : (decide ((s[k].toNat : Int) < 65)) = false := by simp; omega
        have q6 : (decide ((90 : Int) < s[k].toNat)) = true := by simp; omega
        rw [← hge.out] at hnc
        have HN := Lib.hid hnc
        clear hnc hcl
        go_wp2_with fail
        go_roundw
        case rel => exact ⟨k + 1, by omega, by go_num, fin.out _ HN.out rfl, trivial⟩
        case measure => simp [intOf]; omega
      · have hnc : nameC s[k].toNat = true := by simp [nameC]; omega
        have q0 : ((s[k].toNat : Int) != 95) = true := by simp; omega
        have q1 : (decide ((s[k].toNat : Int) < 48)) = false := by simp; omega
        have q2 : (decide ((57 : Int) < s[k].toNat)) = true := by simp; omega
        have q3 : (decide ((s[k].toNat : Int) < 97)) = false := by simp; omega
        have q4 : (decide ((122 : Int) < s[k].toNat)) = false := by simp; omega
        have q5 : (decide ((s[k].toNat : Int) < 65)) = false := by simp; omega
        have q6 : (decide ((90 : Int) < s[k].toNat)) = true := by simp; omega
        rw [← hge.out] at hnc
        have HN := Lib.hid hnc
        clear hnc hcl
        go_wp2_with fail
        go_roundw
        case rel => exact ⟨k + 1, by omega, by go_num, fin.out _ HN.out rfl, trivial⟩
        case measure => simp [intOf]; omega
      · have hnc : nameC s[k].toNat = false := by simp [nameC]; omega
        have q0 : ((s[k].toNat : Int) != 95) = true := by simp; omega
        have q1 : (decide ((s[k].toNat : Int) < 48)) = false := by simp; omega
        have q2 : (decide ((57 : Int) < s[k].toNat)) = true := by simp; omega
        have q3 : (decide ((s[k].toNat : Int) < 97)) = false := by simp; omega
        have q4 : (decide ((122 : Int) < s[k].toNat)) = true := by simp; omega
        have q5 : (decide ((s[k].toNat : Int) < 65)) = false := by simp; omega
        have q6 : (decide ((90 : Int) < s[k].toNat)) = true := by simp; omega
        rw [← hge.out] at hnc
        have HN := Lib.hid hnc
        clear hnc hcl
        go_wp2_with fail
        go_ret
        exact ⟨by rw [nameB_bad s k hlt HN.out]; rfl, rfl⟩
    · obtain rfl : k = s.size := by omega
      have hk1 : decide ((s.size : Int) < s.size) = false := decide_eq_false (by omega)
      have hyes := Lib.hid (nameB_good s h h2 (by rw [nats_getD s 0 (by omega), ← H.out]; exact hlo) (by rw [nats_getD s 0 (by omega), ← H.out]; exact hhi) hall.out)
      go_wp2_with fail
      go_ret
      exact ⟨by rw [hyes.out]; rfl, rfl⟩
theorem isName_first (s : ByteArray) (h : 1 ≤ s.size) (h2 : s.size ≤ 100) (w : World) (hb : ¬ (97 ≤ s[0].toNat ∧ s[0].toNat ≤ 122)) :
    Calls Tryz.prog 16 #[.string s] w fun e w' => e = .returned (.bool (nameB (nats s))) ∧ w = w' := by
  have hno := Lib.hid (nameB_first s (by rw [nats_getD s 0 (by omega)]; exact hb))
  have hd : decide ((s.size : Int) < 1) = false := decide_eq_false (by omega)
  have hd2 : decide ((100 : Int) < (s.size : Int)) = false := decide_eq_false (by omega)
  by_cases hlo : s[0].toNat < 97
  · have hd3 : decide ((s[0].toNat : Int) < 97) = true := decide_eq_true (by omega)
    clear hb
    go_enter Tryz.func16, Tryz.ntmps16
    go_wp2_with fail
    go_ret
    exact ⟨by rw [hno.out]; rfl, rfl⟩
  · have hd3 : decide ((s[0].toNat : Int) < 97) = false := decide_eq_false (by omega)
    have hd4 : decide ((122 : Int) < (s[0].toNat : Int)) = true := decide_eq_true (by omega)
    clear hb
    go_enter Tryz.func16, Tryz.ntmps16
    go_wp2_with fail
    go_ret
    exact ⟨by rw [hno.out]; rfl, rfl⟩
theorem isName_any (s : ByteArray) (w : World) :
    Calls Tryz.prog 16 #[.string s] w fun e w' => e = .returned (.bool (nameB (nats s))) ∧ w = w' := by
  by_cases h : s.size < 1
  · exact isName_short s h w
  · by_cases h2 : 100 < s.size
    · exact isName_long s h2 w
    · by_cases hb : 97 ≤ s[0].toNat ∧ s[0].toNat ≤ 122
      · exact isName_mid s (by omega) (by omega) w _ rfl hb.1 hb.2
      · exact isName_first s (by omega) (by omega) w hb
end Go.Proofs.YtbmknjfgjphfbaaGreatDoor.C
namespace Go.Proofs.YtbmknjfgjphfbaaGreatDoor.C
open Go.RowKit
/-- what num.Parse hands back -/
def okP (v : Option Int) : Value := .tuple #[.int .i64 (v.getD 0), .bool v.isSome]
theorem okP_no {v : Option Int} (h : v = none) : Ending.returned (.tuple #[.int .i64 0, .bool false]) = .returned (okP v) := by rw [h]; rfl
theorem okP_yes {v : Option Int} {n : Int} (h : v = some n) : Ending.returned (.tuple #[.int .i64 n, .bool true]) = .returned (okP v) := by rw [h]; rfl
theorem data_length (s : ByteArray) : s.data.toList.length = s.size := Array.length_toList
theorem isEmpty_ne {s : ByteArray} (h : 1 ≤ s.size) : s.toList.isEmpty = false := by
  rw [ByteArray.toList_eq]
  cases hl : s.data.toList with
  | nil => have := data_length s; rw [hl] at this; simp at this; omega
  | cons => rfl
theorem data_at (d : ByteArray) (k : Nat) (h : k < d.size) : d.data.toList.drop k = d[k] :: d.data.toList.drop (k + 1) := by
  rw [List.drop_eq_getElem_cons (by rw [data_length]; exact h)]; rfl
theorem data_head (d : ByteArray) (h : 0 < d.size) : d.data.toList.head? = some d[0] := by
  have := data_at d 0 h
  rw [List.drop_zero] at this
  rw [this]; rfl
theorem data_extract1 (s : ByteArray) : (s.extract 1 s.size).data.toList = s.data.toList.tail := by
  simp only [ByteArray.data_extract, Array.toList_extract, List.extract_eq_take_drop]
  rw [show s.size - 1 = (s.data.toList.drop 1).length by rw [List.length_drop, data_length], List.take_length, List.drop_one]
theorem acc_step (d : ByteArray) (k : Nat) (h : k < d.size) (n : Int) : accN (d.data.toList.drop k) n = if d[k].toNat < 48 ∨ 57 < d[k].toNat then none else if n < (-9223372036854775808 + ((d[k].toNat : Int) - 48)).tdiv 10 then none else accN (d.data.toList.drop (k + 1)) (n * 10 - ((d[k].toNat : Int) - 48)) := by
  rw [data_at d k h]; rfl
theorem acc_end (d : ByteArray) (n : Int) : accN (d.data.toList.drop d.size) n = some n := by
  rw [List.drop_of_length_le (by rw [data_length]; exact Nat.le_refl _)]; rfl
theorem tdiv_mul (d n : Int) (h : 0 ≤ d) (h' : d ≤ 9) (hq : (-9223372036854775808 + d).tdiv 10 ≤ n) : -9223372036854775808 ≤ n * 10 - d := by
  have e : ∀ k : Int, (0 ≤ k ∧ k ≤ 8 → (-9223372036854775808 + k).tdiv 10 = -922337203685477580) ∧ (k = 9 → (-9223372036854775808 + k).tdiv 10 = -922337203685477579) := by
    intro k
    refine ⟨fun hk => ?_, fun hk => by subst hk; decide⟩
    have : k = 0 ∨ k = 1 ∨ k = 2 ∨ k = 3 ∨ k = 4 ∨ k = 5 ∨ k = 6 ∨ k = 7 ∨ k = 8 := by omega
    rcases this with rfl | rfl | rfl | rfl | rfl | rfl | rfl | rfl | rfl <;> decide
  by_cases h9 : d = 9
  · have := (e d).2 h9; omega
  · have := (e d).1 (by omega); omega
/-- what the whole comes to, once the digits' value is known -/
def Fin (s d : ByteArray) (neg : Bool) (lo hi : Int) : Prop := ∀ r, accN d.data.toList 0 = r → numP s.data.toList lo hi = r.bind fun n => finN neg n lo hi
theorem fin_neg (s : ByteArray) (lo hi : Int) (h : 1 ≤ s.size) (c : Nat) (hc : c = s[0].toNat) (h45 : c = 45) (d : ByteArray) (hd : s.extract 1 s.size = d) (hd1 : 1 ≤ d.size) (h48 : d[0].toNat ≠ 48) : Fin s d true lo hi := by
  intro r hr
  have e1 : d.data.toList = s.data.toList.tail := by rw [← hd, data_extract1]
  have e2 : s.data.toList.head? = some 45 := by
    rw [data_head s (by omega)]
    congr 1
    apply UInt8.toNat_inj.1
    rw [← hc, h45]; rfl
  unfold numP
  rw [if_pos e2, ← e1, if_neg, hr]
  rintro (he | he)
  · have := data_length d; rw [he] at this; simp at this; omega
  · rw [data_head d (by omega)] at he
    injection he with he
    exact h48 (by rw [he]; rfl)
theorem fin_pos (s : ByteArray) (lo hi : Int) (h : 1 ≤ s.size) (c : Nat) (hc : c = s[0].toNat) (h45 : c ≠ 45) (h48 : c ≠ 48 ∨ s.data.toList = [48]) : Fin s s false lo hi := by
  intro r hr
  have e2 : s.data.toList.head? ≠ some 45 := by
    rw [data_head s (by omega)]
    intro he
    injection he with he
    exact h45 (by rw [hc, he]; rfl)
  unfold numP
  rw [if_neg e2, if_neg, hr]
  rintro (he | ⟨he, h2⟩)
  · have := data_length s; rw [he] at this; simp at this; omega
  · rcases h48 with h48 | h48
    · rw [data_head s (by omega)] at he
      injection he with he
      exact h48 (by rw [hc, he]; rfl)
    · exact h2 h48
set_option maxHeartbeats 1000000 in
theorem numParse_neg (s : ByteArray) (lo hi : Int) (w : World) (h : 1 ≤ s.size) (h0 : s.size ≤ 9223372036854775807) (c : Nat) (hm : c = s[0].toNat) (hc : c = 45) :
    Calls Tryz.prog 34 #[.string s, .int .i64 lo, .int .i64 hi] w fun e w' => e = .returned (okP (numP s.data.toList lo hi)) ∧ Below w.heap.size w w' := by
  have e1 : s.toList.isEmpty = false := isEmpty_ne h
  have e2 : ¬ s.toList = [] := by simpa using e1
  have e3 : ((s[0].toNat : Int) == 45) = true := by rw [← hm, hc]; rfl
  have hfz := Lib.hid (fin_neg s lo hi h c hm hc)
  have hnone : Hid ((s.extract 1 s.size).size = 0 → numP s.data.toList lo hi = none) := fun hz => by
    unfold numP
    rw [if_pos (by rw [data_head s (by omega)]; congr 1; apply UInt8.toNat_inj.1; rw [← hm, hc]; rfl), if_pos]
    left; rw [← data_extract1]; have := data_length (s.extract 1 s.size); rw [hz] at this; exact List.length_eq_zero_iff.1 this
  have hzero : Hid (∀ d : ByteArray, s.extract 1 s.size = d → ∀ hz : 1 ≤ d.size, d[0].toNat = 48 → numP s.data.toList lo hi = none) := fun d hd hz h48 => by
    unfold numP
    rw [if_pos (by rw [data_head s (by omega)]; congr 1; apply UInt8.toNat_inj.1; rw [← hm, hc]; rfl), if_pos]
    right; rw [← data_extract1, hd, data_head d (by omega)]; congr 1; exact UInt8.toNat_inj.1 (by rw [h48]; rfl)
  have hne : (s.toList == [48]) = false := by
    rw [ByteArray.toList_eq, beq_eq_false_iff_ne]
    intro he
    have := data_head s (by omega)
    rw [he] at this
    injection this with this
    rw [hc, ← this] at hm
    exact absurd hm (by decide)
  have HM := Lib.hid hm
  have HC := Lib.hid hc
  clear hm hc
  go_enter Tryz.func34, Tryz.ntmps34
  go_upto_region 4 with (fail)
  have hds : (s.extract 1 s.size).size ≤ 9223372036854775807 := by rw [ByteArray.size_extract]; omega
  generalize hd : s.extract 1 s.size = d at hds
  have HD := Lib.hid hd; clear hd
  by_cases hd1 : d.size = 0
  · have HR := Lib.hid (hnone.out (by rw [HD.out]; exact hd1))
    have d1 : d.toList.isEmpty = true := by rw [ByteArray.toList_eq, List.isEmpty_iff, ← List.length_eq_zero_iff, data_length]; exact hd1
    have d2 : d.toList = [] := by simpa using d1
    clear hd1
    go_wp2_with fail
    go_ret2
    exact ⟨okP_no HR.out, Below.refl _ _⟩
  have hd2 : 1 ≤ d.size := by omega
  clear hd1
  have d1 : d.toList.isEmpty = false := isEmpty_ne hd2
  have d2 : ¬ d.toList = [] := by simpa using d1
  by_cases h48 : d[0].toNat = 48
  · have HR := Lib.hid (hzero.out d HD.out hd2 h48)
    have d3 : ((d[0].toNat : Int) == 48) = true := by rw [h48]; rfl
    clear h48
    go_wp2_with fail
    go_ret2
    exact ⟨okP_no HR.out, Below.refl _ _⟩
  have HF := Lib.hid (hfz.out d HD.out hd2 h48)
  have d3 : ((d[0].toNat : Int) == 48) = false := beq_eq_false_iff_ne.2 (by omega)
  clear h48 hfz hzero hnone
  go_wp2_with fail
  go_loopw [10] (fun v wr => ∃ (k : Nat) (n : Int), k ≤ d.size ∧ -9223372036854775808 ≤ n ∧ n ≤ 0 ∧ v = .int .i64 n ∧ Hid (accN (d.data.toList.drop k) n = accN d.data.toList 0) ∧ wr = w.iter d k) (fun _ wr => d.size - wr.iterPos w.heap.size)
  case atStart => exact ⟨0, 0, by omega, by omega, by omega, rfl, rfl, rfl⟩
  case round =>
    obtain ⟨k, n, hk, hn1, hn2, rfl, hacc, rfl⟩ := hrel
    have hbel : ∀ p, Below w.heap.size w (w.iter d p) := fun p => (Below.refl _ _).alloc (Nat.le_refl _) _
    by_cases hlt : k < d.size
    · have HS := Lib.hid (acc_step d k hlt n)
      by_cases ha : d[k].toNat < 128
      · have hnx := fun ty => run_next_ascii (P := Tryz.prog) w d k ty hlt ha
        by_cases h48 : d[k].toNat < 48
        · have t1 : decide ((d[k].toNat : Int) < 48) = true := decide_eq_true (by omega)
          have HN := Lib.hid (HF.out _ (hacc.out.symm.trans (HS.out.trans (if_pos (Or.inl h48)))))
          go_wp2_with fail
          go_ret2
          exact ⟨okP_no HN.out, hbel _⟩
        · by_cases h57 : 57 < d[k].toNat
          · have t1 : decide ((d[k].toNat : Int) < 48) = false := decide_eq_false (by omega)
            have t2 : decide (57 < (d[k].toNat : Int)) = true := decide_eq_true (by omega)
            have HN := Lib.hid (HF.out _ (hacc.out.symm.trans (HS.out.trans (if_pos (Or.inr h57)))))
            go_wp2_with fail
            go_ret2
            exact ⟨okP_no HN.out, hbel _⟩
          · have t1 : decide ((d[k].toNat : Int) < 48) = false := decide_eq_false (by omega)
            have t2 : decide (57 < (d[k].toNat : Int)) = false := decide_eq_false (by omega)
            have HS2 := Lib.hid (HS.out.trans (if_neg (by omega)))
            by_cases hq : n < (-9223372036854775808 + ((d[k].toNat : Int) - 48)).tdiv 10
            · have HN := Lib.hid (HF.out _ (hacc.out.symm.trans (HS2.out.trans (if_pos hq))))
              go_wp2_with fail
              go_ret2
              exact ⟨okP_no HN.out, hbel _⟩
            · have hb1 := tdiv_mul ((d[k].toNat : Int) - 48) n (by omega) (by omega) (by omega)
              have hb2 : -9223372036854775808 ≤ n * 10 := by omega
              have HN := Lib.hid ((HS2.out.trans (if_neg hq)).symm.trans hacc.out)
              go_wp2_with fail
              go_roundw
              case rel => exact ⟨k + 1, _, by omega, hb1, by omega, rfl, HN.out, rfl⟩
              case measure => simp; omega
      · have hnx := fun ty => run_next_any (P := Tryz.prog) w d k ty hlt
        have hhi := (decode_high d k hlt (by omega)).1
        have t1 : decide (((Utf8.decode d k).1 : Int) < 48) = false := decide_eq_false (by omega)
        have t2 : decide (57 < ((Utf8.decode d k).1 : Int)) = true := decide_eq_true (by omega)
        have HN := Lib.hid (HF.out _ (hacc.out.symm.trans (HS.out.trans (if_pos (Or.inr (by omega))))))
        go_wp2_with fail
        go_ret2
        exact ⟨okP_no HN.out, hbel _⟩
    · obtain rfl : k = d.size := by omega
      have hnx := fun ty => run_next_end (P := Tryz.prog) w d d.size ty hlt
      have HN := Lib.hid (HF.out _ (hacc.out.symm.trans (acc_end d n)))
      by_cases hl : n < lo
      · have hd4 : decide (n < lo) = true := decide_eq_true hl
        have HE : Hid (finN true n lo hi = none) := by simp [Hid, finN]; omega
        go_wp2_with fail
        go_ret2
        exact ⟨okP_no (HN.out.trans HE.out), hbel _⟩
      · by_cases hh : hi < n
        · have hd4 : decide (n < lo) = false := decide_eq_false hl
          have hd5 : decide (hi < n) = true := decide_eq_true hh
          have HE : Hid (finN true n lo hi = none) := by simp [Hid, finN]; omega
          go_wp2_with fail
          go_ret2
          exact ⟨okP_no (HN.out.trans HE.out), hbel _⟩
        · have hd4 : decide (n < lo) = false := decide_eq_false hl
          have hd5 : decide (hi < n) = false := decide_eq_false hh
          have HE : Hid (finN true n lo hi = some n) := by simp [Hid, finN]; omega
          go_wp2_with fail
          go_ret2
          exact ⟨okP_yes (HN.out.trans HE.out), hbel _⟩
set_option maxHeartbeats 1000000 in
theorem numParse_pos (s : ByteArray) (lo hi : Int) (w : World) (h : 1 ≤ s.size) (h0 : s.size ≤ 9223372036854775807) (c : Nat) (hm : c = s[0].toNat) (hc : c ≠ 45) (h48 : c ≠ 48) :
    Calls Tryz.prog 34 #[.string s, .int .i64 lo, .int .i64 hi] w fun e w' => e = .returned (okP (numP s.data.toList lo hi)) ∧ Below w.heap.size w w' := by
  have e1 : s.toList.isEmpty = false := isEmpty_ne h
  have e2 : ¬ s.toList = [] := by simpa using e1
  have e3 : ((s[0].toNat : Int) == 45) = false := beq_eq_false_iff_ne.2 (by omega)
  have HF := Lib.hid (fin_pos s lo hi h c hm hc (.inl h48))
  have e4 : ((s[0].toNat : Int) == 48) = false := beq_eq_false_iff_ne.2 (by omega)
  have HM := Lib.hid hm
  clear hm hc h48
  go_enter Tryz.func34, Tryz.ntmps34
  go_wp2_with fail
  go_loopw [10] (fun v wr => ∃ (k : Nat) (n : Int), k ≤ s.size ∧ -9223372036854775808 ≤ n ∧ n ≤ 0 ∧ v = .int .i64 n ∧ Hid (accN (s.data.toList.drop k) n = accN s.data.toList 0) ∧ wr = w.iter s k) (fun _ wr => s.size - wr.iterPos w.heap.size)
  case atStart => exact ⟨0, 0, by omega, by omega, by omega, rfl, rfl, rfl⟩
  case round =>
    obtain ⟨k, n, hk, hn1, hn2, rfl, hacc, rfl⟩ := hrel
    have hbel : ∀ p, Below w.heap.size w (w.iter s p) := fun p => (Below.refl _ _).alloc (Nat.le_refl _) _
    by_cases hlt : k < s.size
    · have HS := Lib.hid (acc_step s k hlt n)
      by_cases ha : s[k].toNat < 128
      · have hnx := fun ty => run_next_ascii (P := Tryz.prog) w s k ty hlt ha
        by_cases h48 : s[k].toNat < 48
        · have t1 : decide ((s[k].toNat : Int) < 48) = true := decide_eq_true (by omega)
          have HN := Lib.hid (HF.out _ (hacc.out.symm.trans (HS.out.trans (if_pos (Or.inl h48)))))
          go_wp2_with fail
          go_ret2
          exact ⟨okP_no HN.out, hbel _⟩
        · by_cases h57 : 57 < s[k].toNat
          · have t1 : decide ((s[k].toNat : Int) < 48) = false := decide_eq_false (by omega)
            have t2 : decide (57 < (s[k].toNat : Int)) = true := decide_eq_true (by omega)
            have HN := Lib.hid (HF.out _ (hacc.out.symm.trans (HS.out.trans (if_pos (Or.inr h57)))))
            go_wp2_with fail
            go_ret2
            exact ⟨okP_no HN.out, hbel _⟩
          · have t1 : decide ((s[k].toNat : Int) < 48) = false := decide_eq_false (by omega)
            have t2 : decide (57 < (s[k].toNat : Int)) = false := decide_eq_false (by omega)
            have HS2 := Lib.hid (HS.out.trans (if_neg (by omega)))
            by_cases hq : n < (-9223372036854775808 + ((s[k].toNat : Int) - 48)).tdiv 10
            · have HN := Lib.hid (HF.out _ (hacc.out.symm.trans (HS2.out.trans (if_pos hq))))
              go_wp2_with fail
              go_ret2
              exact ⟨okP_no HN.out, hbel _⟩
            · have hb1 := tdiv_mul ((s[k].toNat : Int) - 48) n (by omega) (by omega) (by omega)
              have hb2 : -9223372036854775808 ≤ n * 10 := by omega
              have HN := Lib.hid ((HS2.out.trans (if_neg hq)).symm.trans hacc.out)
              go_wp2_with fail
              go_roundw
              case rel => exact ⟨k + 1, _, by omega, hb1, by omega, rfl, HN.out, rfl⟩
              case measure => simp; omega
      · have hnx := fun ty => run_next_any (P := Tryz.prog) w s k ty hlt
        have hhi := (decode_high s k hlt (by omega)).1
        have t1 : decide (((Utf8.decode s k).1 : Int) < 48) = false := decide_eq_false (by omega)
        have t2 : decide (57 < ((Utf8.decode s k).1 : Int)) = true := decide_eq_true (by omega)
        have HN := Lib.hid (HF.out _ (hacc.out.symm.trans (HS.out.trans (if_pos (Or.inr (by omega))))))
        go_wp2_with fail
        go_ret2
        exact ⟨okP_no HN.out, hbel _⟩
    · obtain rfl : k = s.size := by omega
      have hnx := fun ty => run_next_end (P := Tryz.prog) w s s.size ty hlt
      have HN := Lib.hid (HF.out _ (hacc.out.symm.trans (acc_end s n)))
      by_cases hmin : n = -9223372036854775808
      · have hd3 : (n == -9223372036854775808) = true := beq_iff_eq.2 hmin
        have HE : Hid (finN false n lo hi = none) := by simp [Hid, finN, hmin]
        clear hmin
        go_wp2_with fail
        go_ret2
        exact ⟨okP_no (HN.out.trans HE.out), hbel _⟩
      · have hd3 : (n == -9223372036854775808) = false := beq_eq_false_iff_ne.2 hmin
        have hn3 : -9223372036854775808 < n := by omega
        have HM := Lib.hid hmin
        clear hmin
        by_cases hl : -n < lo
        · have hd4 : decide (-n < lo) = true := decide_eq_true hl
          have HE : Hid (finN false n lo hi = none) := by simp [Hid, finN]; omega
          go_wp2_with fail
          go_ret2
          exact ⟨okP_no (HN.out.trans HE.out), hbel _⟩
        · by_cases hh : hi < -n
          · have hd4 : decide (-n < lo) = false := decide_eq_false hl
            have hd5 : decide (hi < -n) = true := decide_eq_true hh
            have HE : Hid (finN false n lo hi = none) := by simp [Hid, finN]; omega
            go_wp2_with fail
            go_ret2
            exact ⟨okP_no (HN.out.trans HE.out), hbel _⟩
          · have hd4 : decide (-n < lo) = false := decide_eq_false hl
            have hd5 : decide (hi < -n) = false := decide_eq_false hh
            have HE : Hid (finN false n lo hi = some (-n)) := by simp [Hid, finN]; omega
            go_wp2_with fail
            go_ret2
            exact ⟨okP_yes (HN.out.trans HE.out), hbel _⟩
set_option maxHeartbeats 1000000 in
theorem numParse_zero (s : ByteArray) (lo hi : Int) (w : World) (h : 1 ≤ s.size) (h0 : s.size ≤ 9223372036854775807) (c : Nat) (hm : c = s[0].toNat) (hc : c ≠ 45) (h48 : c = 48 ∧ s.data.toList = [48]) :
    Calls Tryz.prog 34 #[.string s, .int .i64 lo, .int .i64 hi] w fun e w' => e = .returned (okP (numP s.data.toList lo hi)) ∧ Below w.heap.size w w' := by
  have e1 : s.toList.isEmpty = false := isEmpty_ne h
  have e2 : ¬ s.toList = [] := by simpa using e1
  have e3 : ((s[0].toNat : Int) == 45) = false := beq_eq_false_iff_ne.2 (by omega)
  have HF := Lib.hid (fin_pos s lo hi h c hm hc (.inr h48.2))
  have e4 : ((s[0].toNat : Int) == 48) = true := beq_iff_eq.2 (by omega)
  have e5 : (s.toList == [48]) = true := by rw [ByteArray.toList_eq, beq_iff_eq]; exact h48.2
  have HM := Lib.hid hm
  clear hm hc h48
  go_enter Tryz.func34, Tryz.ntmps34
  go_wp2_with fail
  go_loopw [10] (fun v wr => ∃ (k : Nat) (n : Int), k ≤ s.size ∧ -9223372036854775808 ≤ n ∧ n ≤ 0 ∧ v = .int .i64 n ∧ Hid (accN (s.data.toList.drop k) n = accN s.data.toList 0) ∧ wr = w.iter s k) (fun _ wr => s.size - wr.iterPos w.heap.size)
  case atStart => exact ⟨0, 0, by omega, by omega, by omega, rfl, rfl, rfl⟩
  case round =>
    obtain ⟨k, n, hk, hn1, hn2, rfl, hacc, rfl⟩ := hrel
    have hbel : ∀ p, Below w.heap.size w (w.iter s p) := fun p => (Below.refl _ _).alloc (Nat.le_refl _) _
    by_cases hlt : k < s.size
    · have HS := Lib.hid (acc_step s k hlt n)
      by_cases ha : s[k].toNat < 128
      · have hnx := fun ty => run_next_ascii (P := Tryz.prog) w s k ty hlt ha
        by_cases h48 : s[k].toNat < 48
        · have t1 : decide ((s[k].toNat : Int) < 48) = true := decide_eq_true (by omega)
          have HN := Lib.hid (HF.out _ (hacc.out.symm.trans (HS.out.trans (if_pos (Or.inl h48)))))
          go_wp2_with fail
          go_ret2
          exact ⟨okP_no HN.out, hbel _⟩
        · by_cases h57 : 57 < s[k].toNat
          · have t1 : decide ((s[k].toNat : Int) < 48) = false := decide_eq_false (by omega)
            have t2 : decide (57 < (s[k].toNat : Int)) = true := decide_eq_true (by omega)
            have HN := Lib.hid (HF.out _ (hacc.out.symm.trans (HS.out.trans (if_pos (Or.inr h57)))))
            go_wp2_with fail
            go_ret2
            exact ⟨okP_no HN.out, hbel _⟩
          · have t1 : decide ((s[k].toNat : Int) < 48) = false := decide_eq_false (by omega)
            have t2 : decide (57 < (s[k].toNat : Int)) = false := decide_eq_false (by omega)
            have HS2 := Lib.hid (HS.out.trans (if_neg (by omega)))
            by_cases hq : n < (-9223372036854775808 + ((s[k].toNat : Int) - 48)).tdiv 10
            · have HN := Lib.hid (HF.out _ (hacc.out.symm.trans (HS2.out.trans (if_pos hq))))
              go_wp2_with fail
              go_ret2
              exact ⟨okP_no HN.out, hbel _⟩
            · have hb1 := tdiv_mul ((s[k].toNat : Int) - 48) n (by omega) (by omega) (by omega)
              have hb2 : -9223372036854775808 ≤ n * 10 := by omega
              have HN := Lib.hid ((HS2.out.trans (if_neg hq)).symm.trans hacc.out)
              go_wp2_with fail
              go_roundw
              case rel => exact ⟨k + 1, _, by omega, hb1, by omega, rfl, HN.out, rfl⟩
              case measure => simp; omega
      · have hnx := fun ty => run_next_any (P := Tryz.prog) w s k ty hlt
        have hhi := (decode_high s k hlt (by omega)).1
        have t1 : decide (((Utf8.decode s k).1 : Int) < 48) = false := decide_eq_false (by omega)
        have t2 : decide (57 < ((Utf8.decode s k).1 : Int)) = true := decide_eq_true (by omega)
        have HN := Lib.hid (HF.out _ (hacc.out.symm.trans (HS.out.trans (if_pos (Or.inr (by omega))))))
        go_wp2_with fail
        go_ret2
        exact ⟨okP_no HN.out, hbel _⟩
    · obtain rfl : k = s.size := by omega
      have hnx := fun ty => run_next_end (P := Tryz.prog) w s s.size ty hlt
      have HN := Lib.hid (HF.out _ (hacc.out.symm.trans (acc_end s n)))
      by_cases hmin : n = -9223372036854775808
      · have hd3 : (n == -9223372036854775808) = true := beq_iff_eq.2 hmin
        have HE : Hid (finN false n lo hi = none) := by simp [Hid, finN, hmin]
        clear hmin
        go_wp2_with fail
        go_ret2
        exact ⟨okP_no (HN.out.trans HE.out), hbel _⟩
      · have hd3 : (n == -9223372036854775808) = false := beq_eq_false_iff_ne.2 hmin
        have hn3 : -9223372036854775808 < n := by omega
        have HM := Lib.hid hmin
        clear hmin
        by_cases hl : -n < lo
        · have hd4 : decide (-n < lo) = true := decide_eq_true hl
          have HE : Hid (finN false n lo hi = none) := by simp [Hid, finN]; omega
          go_wp2_with fail
          go_ret2
          exact ⟨okP_no (HN.out.trans HE.out), hbel _⟩
        · by_cases hh : hi < -n
          · have hd4 : decide (-n < lo) = false := decide_eq_false hl
            have hd5 : decide (hi < -n) = true := decide_eq_true hh
            have HE : Hid (finN false n lo hi = none) := by simp [Hid, finN]; omega
            go_wp2_with fail
            go_ret2
            exact ⟨okP_no (HN.out.trans HE.out), hbel _⟩
          · have hd4 : decide (-n < lo) = false := decide_eq_false hl
            have hd5 : decide (hi < -n) = false := decide_eq_false hh
            have HE : Hid (finN false n lo hi = some (-n)) := by simp [Hid, finN]; omega
            go_wp2_with fail
            go_ret2
            exact ⟨okP_yes (HN.out.trans HE.out), hbel _⟩
set_option maxHeartbeats 1000000 in
theorem numParse_lead (s : ByteArray) (lo hi : Int) (w : World) (h : 1 ≤ s.size) (h0 : s.size ≤ 9223372036854775807) (c : Nat) (hm : c = s[0].toNat) (hc : c = 48) (h48 : s.data.toList ≠ [48]) :
    Calls Tryz.prog 34 #[.string s, .int .i64 lo, .int .i64 hi] w fun e w' => e = .returned (okP (numP s.data.toList lo hi)) ∧ Below w.heap.size w w' := by
  have e1 : s.toList.isEmpty = false := isEmpty_ne h
  have e2 : ¬ s.toList = [] := by simpa using e1
  have e3 : ((s[0].toNat : Int) == 45) = false := beq_eq_false_iff_ne.2 (by omega)
  have e4 : ((s[0].toNat : Int) == 48) = true := beq_iff_eq.2 (by omega)
  have e5 : (s.toList == [48]) = false := by rw [ByteArray.toList_eq, beq_eq_false_iff_ne]; exact h48
  have HR : Hid (numP s.data.toList lo hi = none) := by
    unfold Hid numP
    have e : s.data.toList.head? = some 48 := by rw [data_head s (by omega)]; congr 1; apply UInt8.toNat_inj.1; rw [← hm, hc]; rfl
    rw [if_neg (by rw [e]; decide), if_pos (.inr ⟨e, h48⟩)]
  have HM := Lib.hid hm
  clear hm hc h48
  go_enter Tryz.func34, Tryz.ntmps34
  go_wp2_with fail
  go_ret2
  exact ⟨okP_no HR.out, Below.refl _ _⟩
theorem numParse_none (s : ByteArray) (lo hi : Int) (w : World) (h : s.size = 0) :
    Calls Tryz.prog 34 #[.string s, .int .i64 lo, .int .i64 hi] w fun e w' => e = .returned (okP (numP s.data.toList lo hi)) ∧ Below w.heap.size w w' := by
  have hl : s.data.toList = [] := by rw [← List.length_eq_zero_iff, data_length]; exact h
  have e1 : s.toList.isEmpty = true := by rw [ByteArray.toList_eq, hl]; rfl
  have e2 : s.toList = [] := by simpa using e1
  have HR : Hid (numP s.data.toList lo hi = none) := by
    unfold Hid numP; rw [hl]; rfl
  clear h hl
  go_enter Tryz.func34, Tryz.ntmps34
  go_wp2_with fail
  go_ret2
  exact ⟨okP_no HR.out, Below.refl _ _⟩
/-- num.Parse -/
theorem numParse_any (s : ByteArray) (lo hi : Int) (w : World) (h0 : s.size ≤ 9223372036854775807) :
    Calls Tryz.prog 34 #[.string s, .int .i64 lo, .int .i64 hi] w fun e w' => e = .returned (okP (numP s.data.toList lo hi)) ∧ Below w.heap.size w w' := by
  by_cases h : s.size = 0
  · exact numParse_none s lo hi w h
  · by_cases h45 : s[0].toNat = 45
    · exact numParse_neg s lo hi w (by omega) h0 _ rfl h45
    · by_cases h48 : s[0].toNat = 48
      · by_cases hz : s.data.toList = [48]
        · exact numParse_zero s lo hi w (by omega) h0 _ rfl h45 ⟨h48, hz⟩
        · exact numParse_lead s lo hi w (by omega) h0 _ rfl h48 hz
      · exact numParse_pos s lo hi w (by omega) h0 _ rfl h45 h48
end Go.Proofs.YtbmknjfgjphfbaaGreatDoor.C
namespace Go.Proofs.YtbmknjfgjphfbaaGreatDoor.C
theorem indexByte_cases (l : List UInt8) (c : UInt8) : (Lib.indexByte l c = -1 ∧ l.takeWhile (· != c) = l) ∨ (Lib.indexByte l c = ((l.takeWhile (· != c)).length : Int) ∧ (l.takeWhile (· != c)).length < l.length) := by
  induction l with
  | nil => left; exact ⟨rfl, rfl⟩
  | cons b l ih =>
    rw [Lib.indexByte]
    by_cases hb : b = c
    · subst hb
      right
      simp
    · have h1 : (b == c) = false := by simpa using hb
      have h2 : (b != c) = true := by simpa using hb
      rw [h1, List.takeWhile_cons, h2]
      simp only [Bool.false_eq_true, if_false, if_true]
      rcases ih with ⟨i1, i2⟩ | ⟨i1, i2⟩
      · left; rw [i1, i2]; exact ⟨rfl, rfl⟩
      · right
        rw [i1, if_neg (by simp)]
        simp only [List.length_cons]; omega
/-- what the loop of split keeps -/
def SInv (l : List UInt8) (at_ : Nat) (k : Nat) (q : Int) (R : List Wd) : Prop :=
  R.length ≤ k ∧
  ((k ≤ l.length ∧ ∃ n, n ≤ k ∧ (q = if n = 0 then -1 else ((k - n : Nat) : Int)) ∧ R ++ wordsF ((l.take k).drop (k - n)) (at_ + k) (l.drop k) = wordsF [] at_ l) ∨
   (k = l.length + 1 ∧ R = wordsF [] at_ l))
theorem sinv_start (l : List UInt8) (at_ : Nat) : SInv l at_ 0 (-1) [] := by
  refine ⟨Nat.le_refl _, .inl ⟨Nat.zero_le _, 0, Nat.le_refl _, rfl, ?_⟩⟩
  simp
theorem curlen (l : List UInt8) (k n : Nat) (h : n ≤ k) (hk : k ≤ l.length) : ((l.take k).drop (k - n)).length = n := by
  rw [List.length_drop, List.length_take]; omega
theorem cur_nil (l : List UInt8) (k n : Nat) (h : n ≤ k) (hk : k ≤ l.length) : (l.take k).drop (k - n) = [] ↔ n = 0 := by
  rw [← List.length_eq_zero_iff, curlen l k n h hk]
theorem sinv_lt {l : List UInt8} {at_ k : Nat} {q : Int} {R : List Wd} (h : SInv l at_ k q R) (hk : k ≤ l.length) : q < 0 ∧ q = -1 ∨ 0 ≤ q ∧ q < k := by
  obtain ⟨_, ⟨_, n, hn, hq, _⟩ | ⟨h', _⟩⟩ := h
  · by_cases h0 : n = 0
    · rw [if_pos h0] at hq; omega
    · rw [if_neg h0] at hq; omega
  · omega
theorem sinv_blank {l : List UInt8} {at_ k : Nat} {q : Int} {R : List Wd} (h : SInv l at_ k q R) (hk : k < l.length) (hb : blankC l[k] = true) (hq : q < 0) : SInv l at_ (k + 1) (-1) R := by
  obtain ⟨hR, ⟨_, n, hn, hq', hw⟩ | ⟨h', _⟩⟩ := h
  · obtain rfl : n = 0 := by
      by_cases h0 : n = 0
      · exact h0
      · rw [if_neg h0] at hq'; omega
    refine ⟨by omega, .inl ⟨hk, 0, by omega, rfl, ?_⟩⟩
    rw [List.drop_eq_getElem_cons hk, (cur_nil l k 0 hn (by omega)).2 rfl, wordsF, hb] at hw
    rw [(cur_nil l (k + 1) 0 (by omega) (by omega)).2 rfl]
    exact hw
  · omega
theorem sinv_word {l : List UInt8} {at_ k : Nat} {q : Int} {R : List Wd} (h : SInv l at_ k q R) (hk : k < l.length) (hb : blankC l[k] = true) (hq : 0 ≤ q) : SInv l at_ (k + 1) (-1) (R ++ [((l.take k).drop q.toNat, at_ + q.toNat)]) := by
  obtain ⟨hR, ⟨_, n, hn, hq', hw⟩ | ⟨h', _⟩⟩ := h
  · have h0 : n ≠ 0 := by rintro rfl; simp at hq'; omega
    rw [if_neg h0] at hq'
    refine ⟨by simp; omega, .inl ⟨hk, 0, by omega, rfl, ?_⟩⟩
    rw [List.drop_eq_getElem_cons hk, wordsF, hb, if_pos rfl, if_neg (by rw [cur_nil l k n hn (by omega)]; exact h0), curlen l k n hn (by omega)] at hw
    rw [(cur_nil l (k + 1) 0 (by omega) (by omega)).2 rfl, ← hw]
    subst hq'
    simp only [Int.toNat_natCast, List.append_assoc, List.singleton_append]
    rw [show at_ + k - n = at_ + (k - n) by omega]
    rfl
  · omega
theorem take_drop_snoc (l : List UInt8) (k n : Nat) (hn : n ≤ k) (hk : k < l.length) : (l.take (k + 1)).drop (k + 1 - (n + 1)) = (l.take k).drop (k - n) ++ [l[k]] := by
  rw [List.take_succ_eq_append_getElem hk, show k + 1 - (n + 1) = k - n by omega, List.drop_append_of_le_length (by rw [List.length_take]; omega)]
theorem sinv_step {l : List UInt8} {at_ k : Nat} {q : Int} {R : List Wd} (h : SInv l at_ k q R) (hk : k < l.length) (hb : blankC l[k] = false) : SInv l at_ (k + 1) (if q < 0 then k else q) R := by
  obtain ⟨hR, ⟨_, n, hn, hq', hw⟩ | ⟨h', _⟩⟩ := h
  · refine ⟨by omega, .inl ⟨hk, n + 1, by omega, ?_, ?_⟩⟩
    · rw [if_neg (show ¬ n + 1 = 0 by omega)]
      by_cases h0 : n = 0
      · rw [if_pos h0] at hq'; rw [if_pos (show q < 0 by omega)]; omega
      · rw [if_neg h0] at hq'; rw [if_neg (show ¬ q < 0 by omega)]; omega
    · rw [List.drop_eq_getElem_cons hk, wordsF, hb, if_neg (by decide)] at hw
      rw [take_drop_snoc l k n hn hk]
      exact hw
  · omega
theorem sinv_end {l : List UInt8} {at_ : Nat} {q : Int} {R : List Wd} (h : SInv l at_ l.length q R) (hq : q < 0) : SInv l at_ (l.length + 1) (-1) R := by
  obtain ⟨hR, ⟨_, n, hn, hq', hw⟩ | ⟨h', _⟩⟩ := h
  · obtain rfl : n = 0 := by
      by_cases h0 : n = 0
      · exact h0
      · rw [if_neg h0] at hq'; omega
    refine ⟨by omega, .inr ⟨rfl, ?_⟩⟩
    rw [List.drop_length, (cur_nil l _ 0 hn (by omega)).2 rfl, wordsF] at hw
    simpa using hw
  · omega
theorem sinv_endw {l : List UInt8} {at_ : Nat} {q : Int} {R : List Wd} (h : SInv l at_ l.length q R) (hq : 0 ≤ q) : SInv l at_ (l.length + 1) (-1) (R ++ [((l.take l.length).drop q.toNat, at_ + q.toNat)]) := by
  obtain ⟨hR, ⟨_, n, hn, hq', hw⟩ | ⟨h', _⟩⟩ := h
  · have h0 : n ≠ 0 := by rintro rfl; simp at hq'; omega
    rw [if_neg h0] at hq'
    refine ⟨by simp; omega, .inr ⟨rfl, ?_⟩⟩
    rw [List.drop_length, wordsF, if_neg (by rw [cur_nil l _ n hn (by omega)]; exact h0), curlen l _ n hn (by omega)] at hw
    rw [← hw]
    subst hq'
    rw [Int.toNat_natCast, show at_ + l.length - n = at_ + (l.length - n) by omega]
  · omega
theorem sinv_out {l : List UInt8} {at_ : Nat} {q : Int} {R : List Wd} (h : SInv l at_ (l.length + 1) q R) : R = wordsF [] at_ l := by
  obtain ⟨_, ⟨h', _⟩ | ⟨_, h'⟩⟩ := h
  · omega
  · exact h'
end Go.Proofs.YtbmknjfgjphfbaaGreatDoor.C
namespace Go.Proofs.YtbmknjfgjphfbaaGreatDoor.C
open Go.RowKit
def wcells (ws : List Wd) : List Value := ws.flatMap fun x => [.string (str x.1), .int .i64 (x.2 : Int)]
theorem wcells_snoc (ws : List Wd) (x : Wd) : wcells (ws ++ [x]) = wcells ws ++ [.string (str x.1), .int .i64 (x.2 : Int)] := by simp [wcells]
theorem str_data (s : ByteArray) : str s.data.toList = s := by simp [str]
theorem data_str (l : List UInt8) : (str l).data.toList = l := by simp [str]
theorem extract_str (s : ByteArray) (a b : Nat) : s.extract a b = str ((s.data.toList.take b).drop a) := by
  apply ByteArray.ext
  apply Array.toList_inj.1
  rw [data_str, ByteArray.data_extract, Array.toList_extract, List.extract_eq_take_drop, List.drop_take]
theorem cell_two_new (w : World) (a b : Value) (t : TypeId) : ∀ j u, [a, b][j]? = some u → (w.alloc (.cells #[a, b] t)).cell? ((⟨w.heap.size, 0, none⟩ : Addr).add j) = some u := by
  intro j u hj
  match j, hj with
  | 0, hj => simp at hj; subst hj; simp [Addr.add]
  | 1, hj => simp at hj; subst hj; simp [Addr.add]
  | (j + 2), hj => simp at hj
theorem Tryz.info63 : (Tryz.prog.info? 63).map (fun i => (i.zero, i.size, i.bytes)) = some (some (.agg #[.string ByteArray.empty, .int .i64 0]), 2, 24) := by kernel_rfl
/-- a slice handed back, with its cells in new memory -/
def RowRet (w : World) (E size n : Nat) (cs : List Value) (e : Ending) (w' : World) : Prop :=
  ∃ v, e = .returned v ∧ w'.ownsRow w.heap.size E size v n cs ∧ Below w.heap.size w w'
theorem blank_cases (c : UInt8) : blankC c = (((c.toNat : Int) == 32) || ((c.toNat : Int) == 9) || ((c.toNat : Int) == 13)) := by
  unfold blankC
  have e : ∀ m : UInt8, (c == m) = ((c.toNat : Int) == (m.toNat : Int)) := by
    intro m
    rw [Bool.eq_iff_iff, beq_iff_eq, beq_iff_eq]
    constructor
    · rintro rfl; rfl
    · intro h; exact UInt8.toNat_inj.1 (by omega)
  rw [e 32, e 9, e 13]; rfl
theorem sinv_wordB {d : ByteArray} {at_ k : Nat} {q : Int} {R : List Wd} (h : SInv d.data.toList at_ k q R) (hk : k < d.size) (hb : blankC d[k] = true) (hq : 0 ≤ q) : SInv d.data.toList at_ (k + 1) (-1) (R ++ [((d.data.toList.take k).drop q.toNat, at_ + q.toNat)]) := sinv_word h (by rw [data_length]; exact hk) hb hq
theorem sinv_blankB {d : ByteArray} {at_ k : Nat} {q : Int} {R : List Wd} (h : SInv d.data.toList at_ k q R) (hk : k < d.size) (hb : blankC d[k] = true) (hq : q < 0) : SInv d.data.toList at_ (k + 1) (-1) R := sinv_blank h (by rw [data_length]; exact hk) hb hq
theorem sinv_stepB {d : ByteArray} {at_ k : Nat} {q : Int} {R : List Wd} (h : SInv d.data.toList at_ k q R) (hk : k < d.size) (hb : blankC d[k] = false) : SInv d.data.toList at_ (k + 1) (if q < 0 then k else q) R := sinv_step h (by rw [data_length]; exact hk) hb
/-- what a law leaves, kept out of the walk's sight -/
def Kept (p : Prop) : Prop := p
theorem Kept.out {p : Prop} (h : Kept p) : p := h
theorem split_keep {w wr w3 : World} {E size n n' : Nat} {v v' : Value} {xs ys : List Value} {o : Obj} (hown : wr.ownsRow w.heap.size E size v n xs) (hbel : Below w.heap.size w wr) (hg : (wr.alloc o).grownBy w3 v.ownBlock) (h' : w3.ownsRow w.heap.size E size v' n' ys) : Kept (w3.ownsRow w.heap.size E size v' n' ys ∧ Below w.heap.size w w3) :=
  ⟨h', Below.grown (hbel.alloc hbel.size _) hg (by have := hbel.size; simp; omega) (fun j hj => (hown.lt _ hj).1)⟩
theorem word_cells (R : List Wd) (d : ByteArray) (q : Int) (p k : Nat) (hq : 0 ≤ q) : wcells R ++ [.string (d.extract q.toNat k), .int .i64 ((p : Int) + q)] = wcells (R ++ [((d.data.toList.take k).drop q.toNat, p + q.toNat)]) := by
  rw [wcells_snoc, extract_str, show ((p + q.toNat : Nat) : Int) = (p : Int) + q by omega]
theorem idx_any (s : ByteArray) (c : Int) (w : World) : Calls Tryz.prog 14 #[.string s, .int .u8 c] w fun e w' => e = .returned (.int .i64 (Lib.indexByte s.data.toList c.toNat.toUInt8)) ∧ w = w' :=
  (Tryz.strings_IndexByte s c w).mono fun _ _ ⟨a, b⟩ => ⟨a, b.symm⟩
set_option maxHeartbeats 4000000 in
set_option maxRecDepth 100000 in
theorem split_any (s : ByteArray) (p : Nat) (w : World) (hs : s.size ≤ 4294967280) (hp : p ≤ 4294967280) :
    Calls Tryz.prog 15 #[.string s, .int .i64 (p : Int)] w (RowRet w 63 2 (splitP s.data.toList p).length (wcells (splitP s.data.toList p))) := by
  obtain ⟨i0, hi, hz0, hz1, hz2⟩ := info_parts Tryz.info63
  obtain ⟨d, hd, hdl⟩ : ∃ d : ByteArray, d.data.toList = uncomment s.data.toList ∧ d.size ≤ s.size := by
    refine ⟨str (uncomment s.data.toList), data_str _, ?_⟩
    rw [← data_length, ← data_length, data_str]
    exact (List.takeWhile_sublist _).length_le
  have HP : Hid (splitP s.data.toList p = wordsF [] p d.data.toList) := by rw [hd]; rfl
  have HD := Lib.hid hd
  have hcase : Hid ((Lib.indexByte s.data.toList 35 = -1 ∧ s = d) ∨ (∃ n : Nat, n ≤ s.size ∧ Lib.indexByte s.data.toList 35 = n ∧ s.extract 0 n = d)) := by
    have e : d = str (uncomment s.data.toList) := by rw [← hd, str_data]
    rcases indexByte_cases s.data.toList 35 with ⟨h1, h2⟩ | ⟨h1, h2⟩
    · exact .inl ⟨h1, by rw [e]; unfold uncomment; rw [h2, str_data]⟩
    · refine .inr ⟨_, by rw [← data_length]; exact Nat.le_of_lt h2, h1, ?_⟩
      rw [e, extract_str, List.drop_zero, ← List.prefix_iff_eq_take.1 (List.takeWhile_prefix _)]
      rfl
  clear hd
  go_enter Tryz.func15, Tryz.ntmps15
  go_upto_if 13 with (go_at_call 14; refine (idx_any _ _ _).mono ?_; rintro e w' ⟨rfl, rfl⟩)
  generalize hix : Lib.indexByte s.data.toList 35 = ix
  have HX := Lib.hid hix
  clear hix
  go_cut [0, 13] (fun v _ wx => ∃ dd : ByteArray, v = .string dd ∧ Hid (d = dd ∧ w = wx))
  case first =>
    have hc2 := hcase.out
    rw [HX.out] at hc2
    rcases hc2 with ⟨h1, h2⟩ | ⟨n, hn, h1, h2⟩
    · have t : decide (0 ≤ ix) = false := decide_eq_false (by omega)
      have g1 : ix < 0 := by omega
      have H2 := Lib.hid h2
      clear h1 h2
      go_wp2_with fail
      go_meet
      exact ⟨_, rfl, H2.out.symm, rfl⟩
    · have t : decide (0 ≤ ix) = true := decide_eq_true (by omega)
      have g1 : 0 ≤ ix := by omega
      have g2 : ix ≤ s.size := by omega
      have H2 : Hid (s.extract 0 ix.toNat = d) := by rw [h1, Int.toNat_natCast]; exact h2
      clear h1 h2
      go_wp2_with fail
      go_meet
      exact ⟨_, rfl, H2.out.symm, rfl⟩
  case rest =>
  clear hcase
  obtain ⟨dd, rfl, hh⟩ := hcut
  obtain ⟨rfl, rfl⟩ := hh.out
  clear hh
  go_wp2_with fail
  go_loopw [6, 7, 8] (fun v st i wr => ∃ (k : Nat) (q : Int) (R : List Wd), k ≤ d.size + 1 ∧ i = .int .i64 k ∧ st = .int .i64 q ∧ Hid (SInv d.data.toList p k q R) ∧ wr.ownsRow w.heap.size 63 2 v R.length (wcells R) ∧ Below w.heap.size w wr) (fun _ _ i _ => d.size + 1 - (intOf i).toNat)
  case atStart => exact ⟨0, -1, [], by omega, rfl, rfl, sinv_start _ _, World.ownsRow_nil _ _ _ _, Below.refl _ _⟩
  case round =>
    rename_i v _ _ _
    obtain ⟨k, q, R, hk, rfl, rfl, hinv, hown, hbel⟩ := hrel
    have hRk := hinv.out.1
    have hbs := hbel.size
    by_cases hlt : k < d.size
    · have hq := sinv_lt hinv.out (by rw [data_length]; omega)
      have t0 : decide ((k : Int) ≤ d.size) = true := decide_eq_true (by omega)
      have t1 : ((k : Int) == d.size) = false := beq_eq_false_iff_ne.2 (by omega)
      have hcl : d[k].toNat = 32 ∨ d[k].toNat = 9 ∨ d[k].toNat = 13 ∨ (d[k].toNat ≠ 32 ∧ d[k].toNat ≠ 9 ∧ d[k].toNat ≠ 13) := by omega
      rcases hcl with hcl | hcl | hcl | hcl
      · have hbl : blankC d[k] = true := by rw [blank_cases]; simp; omega
        have s32 : ((d[k].toNat : Int) == 32) = true := beq_iff_eq.2 (by omega)
        by_cases hq0 : 0 ≤ q
        · have t2 : decide (0 ≤ q) = true := decide_eq_true hq0
          have HL := Lib.hid (sinv_wordB hinv.out hlt hbl hq0)
          clear hbl hcl
          have HN := Lib.hid (HL.out)
          have HW := Lib.hid (word_cells R d q p k hq0)
          go_wp2_with (first | (at_builtin; refine wpList_append_own _ rfl _ _ 60 rfl w.heap.size 63 i0 (.agg #[.string ByteArray.empty, .int .i64 0]) 2 24 Tryz.underlying60 hi hz0 hz1 hz2 rfl (by decide) _ _ _ rfl (hown.alloc _) ⟨wr.heap.size, 0, none⟩ 1 1 [.string (d.extract q.toNat k), .int .i64 ((p : Int) + q)] rfl rfl (cell_two_new _ _ _ _) (fun x hx => by simp at hx; rcases hx with rfl | rfl <;> rfl) (by unfold maxLen; omega) (by omega) (by simp; omega) ?_; intro v' w3 hown' hgrow3 hnil3; have X := split_keep hown hbel hgrow3 hown'; clear hown' hgrow3 hnil3))
          go_roundw
          case rel => exact ⟨k + 1, -1, _, by omega, by go_num, rfl, HN.out, by rw [← HW.out]; simpa using X.out.1, X.out.2⟩
          case measure => simp [intOf]; try omega
        · have t2 : decide (0 ≤ q) = false := decide_eq_false hq0
          have HL := Lib.hid (sinv_blankB hinv.out hlt hbl (by omega))
          obtain rfl : q = -1 := by omega
          clear hbl hcl
          have HN := Lib.hid (HL.out)
          go_wp2_with fail
          go_roundw
          case rel => exact ⟨k + 1, -1, R, by omega, by go_num, rfl, HN.out, hown, hbel⟩
          case measure => simp [intOf]; try omega
      · have hbl : blankC d[k] = true := by rw [blank_cases]; simp; omega
        have s32 : ((d[k].toNat : Int) == 32) = false := beq_eq_false_iff_ne.2 (by omega)
        have s9 : ((d[k].toNat : Int) == 9) = true := beq_iff_eq.2 (by omega)
        by_cases hq0 : 0 ≤ q
        · have t2 : decide (0 ≤ q) = true := decide_eq_true hq0
          have HL := Lib.hid (sinv_wordB hinv.out hlt hbl hq0)
          clear hbl hcl
          have HN := Lib.hid (HL.out)
          have HW := Lib.hid (word_cells R d q p k hq0)
          go_wp2_with (first | (at_builtin; refine wpList_append_own _ rfl _ _ 60 rfl w.heap.size 63 i0 (.agg #[.string ByteArray.empty, .int .i64 0]) 2 24 Tryz.underlying60 hi hz0 hz1 hz2 rfl (by decide) _ _ _ rfl (hown.alloc _) ⟨wr.heap.size, 0, none⟩ 1 1 [.string (d.extract q.toNat k), .int .i64 ((p : Int) + q)] rfl rfl (cell_two_new _ _ _ _) (fun x hx => by simp at hx; rcases hx with rfl | rfl <;> rfl) (by unfold maxLen; omega) (by omega) (by simp; omega) ?_; intro v' w3 hown' hgrow3 hnil3; have X := split_keep hown hbel hgrow3 hown'; clear hown' hgrow3 hnil3))
          go_roundw
          case rel => exact ⟨k + 1, -1, _, by omega, by go_num, rfl, HN.out, by rw [← HW.out]; simpa using X.out.1, X.out.2⟩
          case measure => simp [intOf]; try omega
        · have t2 : decide (0 ≤ q) = false := decide_eq_false hq0
          have HL := Lib.hid (sinv_blankB hinv.out hlt hbl (by omega))
          obtain rfl : q = -1 := by omega
          clear hbl hcl
          have HN := Lib.hid (HL.out)
          go_wp2_with fail
          go_roundw
          case rel => exact ⟨k + 1, -1, R, by omega, by go_num, rfl, HN.out, hown, hbel⟩
          case measure => simp [intOf]; try omega
      · have hbl : blankC d[k] = true := by rw [blank_cases]; simp; omega
        have s32 : ((d[k].toNat : Int) == 32) = false := beq_eq_false_iff_ne.2 (by omega)
        have s9 : ((d[k].toNat : Int) == 9) = false := beq_eq_false_iff_ne.2 (by omega)
        have s13 : ((d[k].toNat : Int) == 13) = true := beq_iff_eq.2 (by omega)
        by_cases hq0 : 0 ≤ q
        · have t2 : decide (0 ≤ q) = true := decide_eq_true hq0
          have HL := Lib.hid (sinv_wordB hinv.out hlt hbl hq0)
          clear hbl hcl
          have HN := Lib.hid (HL.out)
          have HW := Lib.hid (word_cells R d q p k hq0)
          go_wp2_with (first | (at_builtin; refine wpList_append_own _ rfl _ _ 60 rfl w.heap.size 63 i0 (.agg #[.string ByteArray.empty, .int .i64 0]) 2 24 Tryz.underlying60 hi hz0 hz1 hz2 rfl (by decide) _ _ _ rfl (hown.alloc _) ⟨wr.heap.size, 0, none⟩ 1 1 [.string (d.extract q.toNat k), .int .i64 ((p : Int) + q)] rfl rfl (cell_two_new _ _ _ _) (fun x hx => by simp at hx; rcases hx with rfl | rfl <;> rfl) (by unfold maxLen; omega) (by omega) (by simp; omega) ?_; intro v' w3 hown' hgrow3 hnil3; have X := split_keep hown hbel hgrow3 hown'; clear hown' hgrow3 hnil3))
          go_roundw
          case rel => exact ⟨k + 1, -1, _, by omega, by go_num, rfl, HN.out, by rw [← HW.out]; simpa using X.out.1, X.out.2⟩
          case measure => simp [intOf]; try omega
        · have t2 : decide (0 ≤ q) = false := decide_eq_false hq0
          have HL := Lib.hid (sinv_blankB hinv.out hlt hbl (by omega))
          obtain rfl : q = -1 := by omega
          clear hbl hcl
          have HN := Lib.hid (HL.out)
          go_wp2_with fail
          go_roundw
          case rel => exact ⟨k + 1, -1, R, by omega, by go_num, rfl, HN.out, hown, hbel⟩
          case measure => simp [intOf]; try omega
      · have hbl : blankC d[k] = false := by rw [blank_cases]; simp; omega
        have s32 : ((d[k].toNat : Int) == 32) = false := beq_eq_false_iff_ne.2 (by omega)
        have s9 : ((d[k].toNat : Int) == 9) = false := beq_eq_false_iff_ne.2 (by omega)
        have s13 : ((d[k].toNat : Int) == 13) = false := beq_eq_false_iff_ne.2 (by omega)
        have HL := Lib.hid (sinv_stepB hinv.out hlt hbl)
        clear hbl hcl
        by_cases hq0 : q < 0
        · have t2 : decide (q < 0) = true := decide_eq_true hq0
          have HN := Lib.hid (by have := HL.out; rw [if_pos hq0] at this; exact this)
          go_wp2_with fail
          go_roundw
          case rel => exact ⟨k + 1, (k : Int), R, by omega, by go_num, rfl, HN.out, hown, hbel⟩
          case measure => simp [intOf]; try omega
        · have t2 : decide (q < 0) = false := decide_eq_false hq0
          have HN := Lib.hid (by have := HL.out; rw [if_neg hq0] at this; exact this)
          go_wp2_with fail
          go_roundw
          case rel => exact ⟨k + 1, q, R, by omega, by go_num, rfl, HN.out, hown, hbel⟩
          case measure => simp [intOf]; try omega
    · by_cases he : k = d.size
      · subst he
        have hdl' : Hid (d.data.toList.length = d.size) := data_length d
        have hq := sinv_lt hinv.out (by rw [data_length]; omega)
        have t0 : decide ((d.size : Int) ≤ d.size) = true := decide_eq_true (by omega)
        have t1 : ((d.size : Int) == d.size) = true := beq_iff_eq.2 rfl
        by_cases hq0 : 0 ≤ q
        · have t2 : decide (0 ≤ q) = true := decide_eq_true hq0
          have HL : Hid (SInv d.data.toList p (d.size + 1) (-1) (R ++ [((d.data.toList.take d.size).drop q.toNat, p + q.toNat)])) := by
            have := hinv.out
            have h2 := sinv_endw (l := d.data.toList) (by rw [hdl'.out]; exact this) hq0
            rw [hdl'.out] at h2; exact h2
          have HN := Lib.hid (HL.out)
          have HW := Lib.hid (word_cells R d q p d.size hq0)
          go_wp2_with (first | (at_builtin; refine wpList_append_own _ rfl _ _ 60 rfl w.heap.size 63 i0 (.agg #[.string ByteArray.empty, .int .i64 0]) 2 24 Tryz.underlying60 hi hz0 hz1 hz2 rfl (by decide) _ _ _ rfl (hown.alloc _) ⟨wr.heap.size, 0, none⟩ 1 1 [.string (d.extract q.toNat d.size), .int .i64 ((p : Int) + q)] rfl rfl (cell_two_new _ _ _ _) (fun x hx => by simp at hx; rcases hx with rfl | rfl <;> rfl) (by unfold maxLen; omega) (by omega) (by simp; omega) ?_; intro v' w3 hown' hgrow3 hnil3; have X := split_keep hown hbel hgrow3 hown'; clear hown' hgrow3 hnil3))
          go_roundw
          case rel => exact ⟨d.size + 1, -1, _, by omega, by go_num, rfl, HN.out, by rw [← HW.out]; simpa using X.out.1, X.out.2⟩
          case measure => simp [intOf]; try omega
        · have t2 : decide (0 ≤ q) = false := decide_eq_false hq0
          have HL : Hid (SInv d.data.toList p (d.size + 1) (-1) R) := by
            have := hinv.out
            have h2 := sinv_end (l := d.data.toList) (by rw [hdl'.out]; exact this) (by omega)
            rw [hdl'.out] at h2; exact h2
          obtain rfl : q = -1 := by omega
          have HN := Lib.hid (HL.out)
          go_wp2_with fail
          go_roundw
          case rel => exact ⟨d.size + 1, -1, R, by omega, by go_num, rfl, HN.out, hown, hbel⟩
          case measure => simp [intOf]; try omega
      · obtain rfl : k = d.size + 1 := by omega
        have HL : Hid (R = wordsF [] p d.data.toList) := by
          have := hinv.out
          rw [← data_length d] at this
          exact sinv_out this
        have t0 : decide (((d.size + 1 : Nat) : Int) ≤ d.size) = false := decide_eq_false (by omega)
        clear hinv
        go_wp2_with fail
        go_ret
        exact ⟨_, rfl, by rw [HP.out, ← HL.out]; exact hown, hbel⟩
end Go.Proofs.YtbmknjfgjphfbaaGreatDoor.C
namespace Go.Proofs.YtbmknjfgjphfbaaGreatDoor.C
open Go.RowKit Go.Maps Go.WideMaps Go.ChangeMaps
/-- how an element of a map is held: as the value itself -/
def heldV (v : Value) : Option (DataW Value × List MemPlace) := some (.held v, [])
/-- block b is a map from strings with n entries, whose entry at s is f s -/
def MapIs (P : Program) (K : TypeId) (w : World) (b n : Nat) (f : List UInt8 → Option Value) : Prop :=
  ∃ D : DataW Value, w.ownsMap P K heldV b n D ∧ Maps.size D = n ∧ ∀ s : List UInt8, Maps.has D (.string s) = (f s).isSome ∧ ∀ v, f s = some v → ∀ z, D.atKey (.string s) z = .held v
theorem ownsMap_exact {P : Program} {k : TypeId} {R : Value → Option (DataW Value × List MemPlace)} {w : World} {b n : Nat} {D : DataW Value} (h : w.ownsMap P k R b n D) : w.ownsMap P k R b (Maps.size D) D := by
  obtain ⟨es, clock, hb, F, hs, rfl⟩ := h
  exact ⟨es, clock, hb, F, by simp [Maps.size, length_sorted], rfl⟩
section
variable {P : Program} {K : TypeId} {w w' : World} {b n : Nat} {f : List UInt8 → Option Value}
theorem MapIs.made (P : Program) (K : TypeId) (w : World) : MapIs P K (w.alloc (.map #[] 0)) w.heap.size 0 (fun _ => none) :=
  ⟨.map [], World.ownsMap_made w P K heldV, rfl, fun s => ⟨rfl, fun v h => by cases h⟩⟩
theorem MapIs.lt (h : MapIs P K w b n f) : b < w.heap.size := by obtain ⟨D, h, _⟩ := h; exact h.lt
theorem MapIs.kept {row : Option Nat} (h : MapIs P K w b n f) (hg : w.grownBy w' row) (hne : some b ≠ row) : MapIs P K w' b n f := by
  obtain ⟨D, h, r⟩ := h; exact ⟨D, h.kept hg hne, r⟩
theorem MapIs.below {B : Nat} (h : MapIs P K w b n f) (hb : Below B w w') (hB : b < B) : MapIs P K w' b n f := by
  obtain ⟨D, ⟨es, clock, h1, r1⟩, r⟩ := h
  exact ⟨D, ⟨es, clock, (hb.block b hB).trans h1, r1⟩, r⟩
theorem MapIs.alloc (h : MapIs P K w b n f) (o : Obj) : MapIs P K (w.alloc o) b n f := by
  obtain ⟨D, h, r⟩ := h; exact ⟨D, h.alloc o, r⟩
theorem MapIs.setCell (h : MapIs P K w b n f) {a : Addr} (ha : b ≠ a.block) (u : Value) : MapIs P K (w.setCell a u) b n f := by
  obtain ⟨D, h, r⟩ := h; exact ⟨D, h.setCell ha u, r⟩
theorem MapIs.congr {g : List UInt8 → Option Value} (h : MapIs P K w b n f) (e : ∀ s, f s = g s) : MapIs P K w b n g := by
  obtain rfl : f = g := funext e
  exact h
theorem MapIs.look (h : MapIs P K w b n f) (hK : P.underlying K = some .string) {t e : TypeId} (ht : P.underlying t = some (.map K e)) {z : Value} (hz : (zeroValue e).run P w = .ok z w) {s : ByteArray} (hs : s.size ≤ maxLen) :
    (Instr.lookup t (.map (some b)) (.string s) false).run P w = .ok ((f s.data.toList).getD z) w := by
  obtain ⟨D, h, _, hf⟩ := h
  obtain ⟨v, ps, hrun, hv⟩ := h.lookup (string_keyed hK) ht hz (zd := .held z) (zp := []) rfl (keyOf_string_mk hK hs)
  rw [hrun]
  obtain ⟨h1, h2⟩ := hf s.data.toList
  have hv' : (DataW.held v : DataW Value) = D.atKey (.string s.data.toList) (.held z) := by
    unfold heldV at hv
    injection hv with hv
    exact congrArg Prod.fst hv
  cases hc : f s.data.toList with
  | none =>
    rw [hc] at h1
    rw [atKey_of_not_has h1] at hv'
    injection hv' with hv'
    rw [hv']; rfl
  | some u =>
    rw [h2 u hc] at hv'
    injection hv' with hv'
    rw [hv']; rfl
theorem MapIs.lookOk (h : MapIs P K w b n f) (hK : P.underlying K = some .string) {t e : TypeId} (ht : P.underlying t = some (.map K e)) {z : Value} (hz : (zeroValue e).run P w = .ok z w) {s : ByteArray} (hs : s.size ≤ maxLen) :
    (Instr.lookup t (.map (some b)) (.string s) true).run P w = .ok (.tuple #[(f s.data.toList).getD z, .bool (f s.data.toList).isSome]) w := by
  obtain ⟨D, h, _, hf⟩ := h
  obtain ⟨v, ps, hrun, hv⟩ := h.look_ok (string_keyed hK) ht hz (zd := .held z) (zp := []) rfl (keyOf_string_mk hK hs)
  obtain ⟨h1, h2⟩ := hf s.data.toList
  rw [hrun, h1]
  have hv' : (DataW.held v : DataW Value) = D.atKey (.string s.data.toList) (.held z) := by
    unfold heldV at hv
    injection hv with hv
    exact congrArg Prod.fst hv
  cases hc : f s.data.toList with
  | none =>
    rw [hc] at h1
    rw [atKey_of_not_has h1] at hv'
    injection hv' with hv'
    rw [hv']; rfl
  | some u =>
    rw [h2 u hc] at hv'
    injection hv' with hv'
    rw [hv']; rfl
theorem str_isKey (hK : P.underlying K = some .string) {s : ByteArray} (hs : s.size ≤ maxLen) : WideAt.IsKeyLit (.string s.data.toList) := (string_keyed hK).key (keyOf_string_mk hK hs)
def upd (f : List UInt8 → Option Value) (s : List UInt8) (v : Option Value) : List UInt8 → Option Value := fun t => if t = s then v else f t
theorem MapIs.put (h : MapIs P K w b n f) (hK : P.underlying K = some .string) {t e : TypeId} (ht : P.underlying t = some (.map K e)) (hn : n < maxLen) {s : ByteArray} (hs : s.size ≤ maxLen) (v : Value) :
    ∃ w', (Instr.mapUpdate t (.map (some b)) (.string s) v).run P w = .ok () w' ∧ MapIs P K w' b (if (f s.data.toList).isSome then n else n + 1) (upd f s.data.toList (some v)) ∧ w.grownBy w' (some b) := by
  obtain ⟨D, h, hsz, hf⟩ := h
  obtain ⟨w', hrun, h', hg⟩ := h.update (string_keyed hK) ht hn (keyOf_string_mk hK hs) (val := v) (d := .held v) (ps := []) rfl
  have hsz' : Maps.size (D.put (.string s.data.toList) (.held v)) = if (f s.data.toList).isSome then n else n + 1 := by
    rw [size_put (h.tidy (string_keyed hK)), (hf s.data.toList).1, hsz]
  refine ⟨w', hrun, ⟨_, ?_, hsz', fun x => ?_⟩, hg⟩
  · rw [← hsz']; exact ownsMap_exact h'
  · have hkl := str_isKey hK hs
    unfold upd
    by_cases hx : x = s.data.toList
    · subst hx
      rw [if_pos rfl]
      exact ⟨has_put_same h.isMap hkl _, fun u hu z => by injection hu with hu; subst hu; exact atKey_put_same h.isMap hkl _ _⟩
    · rw [if_neg hx]
      have hne : (Lit.string x) ≠ Lit.string s.data.toList := fun e => hx (by injection e)
      exact ⟨(has_put_other hne _).trans (hf x).1, fun u hu z => (atKey_put_other hne _ _).trans ((hf x).2 u hu z)⟩
theorem MapIs.drop (h : MapIs P K w b n f) (hK : P.underlying K = some .string) {t e : TypeId} (ht : P.underlying t = some (.map K e)) {s : ByteArray} (hs : s.size ≤ maxLen) (ty : TypeId) :
    ∃ w' n', (Builtin.delete_ #[t, K] ty #[.map (some b), .string s]).run P w = .ok (.tuple #[]) w' ∧ n' ≤ n ∧ MapIs P K w' b n' (upd f s.data.toList none) ∧ w.grownBy w' (some b) := by
  obtain ⟨D, h, hsz, hf⟩ := h
  obtain ⟨w', hrun, h', hg⟩ := h.drop (string_keyed hK) ht (keyOf_string_mk hK hs) ty
  refine ⟨w', _, hrun, ?_, ⟨_, ownsMap_exact h', rfl, fun x => ?_⟩, hg.grown⟩
  · have := size_del (h.tidy (string_keyed hK)) (k := .string s.data.toList); omega
  · unfold upd
    by_cases hx : x = s.data.toList
    · subst hx
      rw [if_pos rfl]
      exact ⟨has_del_same, fun u hu => by cases hu⟩
    · rw [if_neg hx]
      have hne : (Lit.string x) ≠ Lit.string s.data.toList := fun e => hx (by injection e)
      exact ⟨(has_del_other hne).trans (hf x).1, fun u hu z => (atKey_del_other hne _).trans ((hf x).2 u hu z)⟩
theorem MapIs.len (h : MapIs P K w b n f) {t e : TypeId} (ht : P.underlying t = some (.map K e)) (ty : TypeId) : (Builtin.len_ #[t] ty #[.map (some b)]).run P w = .ok (.int .i64 (n : Int)) w := by
  obtain ⟨D, h, hsz, _⟩ := h
  rw [h.len ht ty, hsz]
end
section
variable {P : Program} {K : TypeId} (w : World) {ops : Array Oper} {rest : List Oper} {o : Oper} {a : Act} {Q : Exit → Act → World → Prop}
theorem wpList_put_is (hg : o.guard = none) (m x v : Operand) (t : TypeId) (hop : o.op = Op.mapUpdate t m x v ∨ o.op = Op.insert t m x v)
    (e : TypeId) (hK : P.underlying K = some .string) (ht : P.underlying t = some (.map K e)) (b n : Nat) (f : List UInt8 → Option Value)
    (hm : a.eval m = .map (some b)) (his : MapIs P K w b n f) (hn : n < maxLen) (s : ByteArray) (val : Value) (hx : a.eval x = .string s) (hv : a.eval v = val) (hs : s.size ≤ maxLen)
    (hk : ∀ w', MapIs P K w' b (if (f s.data.toList).isSome then n else n + 1) (upd f s.data.toList (some val)) → w.grownBy w' (some b) → wpList P ops Q rest (a.put o.dst undef) w') :
    wpList P ops Q (o :: rest) a w := by
  refine wpList_plain hg fun K' hK' => ?_
  obtain ⟨w', hrun, r1, r2⟩ := his.put hK ht hn hs val
  unfold Oper.wp
  rcases hop with hop | hop
  all_goals
    simp [execOp, hop, hm, hx, hv, hrun, Result.andThen]
    exact hK' _ _ (hk w' r1 r2)
theorem wpList_drop_is (hg : o.guard = none) (m x : Operand) (t : TypeId) (hop : o.op = Op.call { callee := Callee.builtin Builtin.delete, args := #[m, x], argTypes := #[t, K] })
    (e : TypeId) (hK : P.underlying K = some .string) (ht : P.underlying t = some (.map K e)) (b n : Nat) (f : List UInt8 → Option Value)
    (hm : a.eval m = .map (some b)) (his : MapIs P K w b n f) (s : ByteArray) (hx : a.eval x = .string s) (hs : s.size ≤ maxLen)
    (hk : ∀ w' n', n' ≤ n → MapIs P K w' b n' (upd f s.data.toList none) → w.grownBy w' (some b) → wpList P ops Q rest (a.put o.dst (.tuple #[])) w') :
    wpList P ops Q (o :: rest) a w := by
  refine wpList_plain hg fun K' hK' => ?_
  obtain ⟨w', n', hrun, r0, r1, r2⟩ := his.drop hK ht hs o.type
  unfold Oper.wp
  simp [execOp, hop, resolve, invoke, builtin, hm, hx, hrun, Result.andThen]
  exact hK' _ _ (hk w' n' r0 r1 r2)
end
end Go.Proofs.YtbmknjfgjphfbaaGreatDoor.C
namespace Go.Proofs.YtbmknjfgjphfbaaGreatDoor.C
open Go.RowKit
theorem numParse_t (s : ByteArray) (lo hi : Int) (w : World) (h0 : s.size ≤ 9223372036854775807) :
    Calls Tryz.prog 34 #[.string s, .int .i64 lo, .int .i64 hi] w fun e w' => e = .returned (.tuple #[.int .i64 ((numP s.data.toList lo hi).getD 0), .bool (numP s.data.toList lo hi).isSome]) ∧ Below w.heap.size w w' := numParse_any s lo hi w h0
theorem mk_any (a : Addr) (w : World) : Calls Tryz.prog 32 #[.pointer (some a)] w fun e w' => e = .returned (.func (.func 33) #[] #[.pointer (some ⟨w.heap.size, 0, none⟩)]) ∧ w' = w.alloc (.cells #[.pointer (some a)] 94) := by
  go_enter Tryz.func32, Tryz.ntmps32
  go_wp2_with fail
  go_ret
  exact ⟨rfl, rfl⟩
/-- a cell is set; what was there is else as it was, and the rest is new -/
def SetRet (w : World) (a : Addr) (r : Option Int) (e : Ending) (w' : World) : Prop :=
  e = .returned (.bool r.isSome) ∧ ∃ w1, Below w.heap.size w w1 ∧ w' = w1.setCell a (.int .i64 (r.getD 0))
theorem cost_no (s : ByteArray) (a p : Addr) (w : World) (hp : w.cell? p = some (.pointer (some a))) (u : Value) (ha : w.cell? a = some u) (hf : w.frozen? a = false) (hs : s.size ≤ 9223372036854775807) (he : s.data.toList ≠ [45]) :
    Calls Tryz.prog 33 #[.string s, .pointer (some p)] w (SetRet w a (costP s.data.toList)) := by
  have e1 : (s.toList == [45]) = false := by rw [ByteArray.toList_eq, beq_eq_false_iff_ne]; exact he
  have HC : Hid (costP s.data.toList = numP s.data.toList 0 1048576) := by unfold costP; rw [if_neg he]; rfl
  have hpl := World.block_lt_of_cell? w p hp
  have hal := World.block_lt_of_cell? w a ha
  clear he
  go_enter Tryz.func33, Tryz.ntmps33
  go_wp2_with (first | (go_at_call 34; refine (numParse_t _ _ _ _ hs).mono ?_; rintro e w1 ⟨rfl, hb⟩; have hp1 := (hb.cell hpl).trans hp; have ha1 := (hb.cell hal).trans ha; have hf1 := (hb.frozen hal).trans hf))
  go_ret
  exact ⟨by rw [HC.out]; rfl, w1, hb, by rw [HC.out]⟩
theorem cost_dash (s : ByteArray) (a p : Addr) (w : World) (hp : w.cell? p = some (.pointer (some a))) (u : Value) (ha : w.cell? a = some u) (hf : w.frozen? a = false) (he : s.data.toList = [45]) :
    Calls Tryz.prog 33 #[.string s, .pointer (some p)] w (SetRet w a (costP s.data.toList)) := by
  have e1 : (s.toList == [45]) = true := by rw [ByteArray.toList_eq, beq_iff_eq]; exact he
  have HC : Hid (costP s.data.toList = some (-1)) := by unfold costP; rw [if_pos he]; rfl
  clear he
  go_enter Tryz.func33, Tryz.ntmps33
  go_wp2_with fail
  go_ret
  exact ⟨by rw [HC.out]; rfl, w, Below.refl _ _, by rw [HC.out]; rfl⟩
theorem cost_any (s : ByteArray) (a p : Addr) (w : World) (hp : w.cell? p = some (.pointer (some a))) (u : Value) (ha : w.cell? a = some u) (hf : w.frozen? a = false) (hs : s.size ≤ 9223372036854775807) :
    Calls Tryz.prog 33 #[.string s, .pointer (some p)] w (SetRet w a (costP s.data.toList)) := by
  by_cases he : s.data.toList = [45]
  · exact cost_dash s a p w hp u ha hf he
  · exact cost_no s a p w hp u ha hf hs he
theorem due_any (s : ByteArray) (b : Nat) (w : World) (u : Value) (ha : w.cell? ⟨b, 3, none⟩ = some u) (hf : w.frozen? ⟨b, 3, none⟩ = false) (hs : s.size ≤ 9223372036854775807) :
    Calls Tryz.prog 35 #[.string s, .pointer (some ⟨b, 0, none⟩)] w (SetRet w ⟨b, 3, none⟩ (numP s.data.toList 0 1073741824)) := by
  have hal := World.block_lt_of_cell? w _ ha
  go_enter Tryz.func35, Tryz.ntmps35
  go_wp2_with (first | (go_at_call 34; refine (numParse_t _ _ _ _ hs).mono ?_; rintro e w1 ⟨rfl, hb⟩; have ha1 := (hb.cell hal).trans ha; have hf1 := (hb.frozen hal).trans hf))
  go_ret
  exact ⟨rfl, w1, hb, rfl⟩
end Go.Proofs.YtbmknjfgjphfbaaGreatDoor.C
namespace Go.Proofs.YtbmknjfgjphfbaaGreatDoor.C
open Go.RowKit
/-- block g is the cells cs of type t -/
def Hs (w : World) (g : Nat) (t : TypeId) (cs : Array Value) : Prop := w.heap[g]? = some (.cells cs t (0, 0))
section
variable {w w' : World} {g : Nat} {t : TypeId} {cs : Array Value}
theorem Hs.lt (h : Hs w g t cs) : g < w.heap.size := (Array.getElem?_eq_some_iff.1 h).1
theorem Hs.cell (h : Hs w g t cs) (i : Nat) : w.cell? ⟨g, i, none⟩ = cs[i]? := cell_of_row w g i cs t (0, 0) h
theorem Hs.free (h : Hs w g t cs) (i : Nat) : w.frozen? ⟨g, i, none⟩ = false := by unfold Hs at h; simp [World.frozen?, h]
theorem Hs.new (w : World) (t : TypeId) (cs : Array Value) : Hs (w.alloc (.cells cs t)) w.heap.size t cs := heap_alloc_new w _
theorem Hs.alloc (h : Hs w g t cs) (o : Obj) : Hs (w.alloc o) g t cs := (Below.heap_alloc w o g h.lt).trans h
theorem Hs.below {B : Nat} (h : Hs w g t cs) (hb : Below B w w') (hg : g < B) : Hs w' g t cs := (hb.block g hg).trans h
theorem Hs.grown {row : Option Nat} (h : Hs w g t cs) (hb : w.grownBy w' row) (hg : some g ≠ row) : Hs w' g t cs := (hb.block g h.lt hg).trans h
theorem Hs.put (h : Hs w g t cs) (i : Nat) (u : Value) : Hs (w.setCell ⟨g, i, none⟩ u) g t (cs.setIfInBounds i u) := by
  unfold Hs at h ⊢
  simp [World.setCell, Array.getElem?_modify, h]
theorem Hs.far (h : Hs w g t cs) {p : Addr} (hp : g ≠ p.block) (u : Value) : Hs (w.setCell p u) g t cs := (Below.heap_setCell w p u g hp).trans h
end
theorem below_grown {B : Nat} {w wr w1 : World} {b : Nat} (h : Below B w wr) (hg : wr.grownBy w1 (some b)) (hB : B ≤ wr.heap.size) (hb : B ≤ b) : Below B w w1 :=
  Below.grown h hg hB (fun j hj => by injection hj with hj; omega)
theorem asz (w : World) (o : Obj) : (w.alloc o).heap.size = w.heap.size + 1 := by simp
def zeroO : Off := ⟨⟨#[]⟩, 0, 0, 0, 0, 0⟩
/-- while the map of keywords is filled -/
structure Ent0 (w wr : World) (o : Off) (L : List (Nat × Nat)) : Prop where
  bel : Below w.heap.size w wr
  big : w.heap.size + 2 < wr.heap.size
  res : Hs wr w.heap.size 40 zeroO.cells
  off : Hs wr (w.heap.size + 1) 40 o.cells
  box : ∀ x ∈ L, w.heap.size + 2 < x.1 ∧ Hs wr x.1 94 #[.pointer (some ⟨w.heap.size + 1, x.2, none⟩)]
theorem Ent0.step {w wr w1 : World} {o : Off} {L : List (Nat × Nat)} (h : Ent0 w wr o L) {j : Nat} (hg : (wr.alloc (.cells #[.pointer (some ⟨w.heap.size + 1, j, none⟩)] 94)).grownBy w1 (some (w.heap.size + 2))) : Ent0 w w1 o ((wr.heap.size, j) :: L) := by
  have hs := hg.size
  have hb := h.big
  rw [asz] at hs
  refine ⟨below_grown (h.bel.alloc h.bel.size _) hg (by rw [asz]; omega) (by omega), by omega, (h.res.alloc _).grown hg (by simp), (h.off.alloc _).grown hg (by simp), ?_⟩
  intro x hx
  rcases List.mem_cons.1 hx with rfl | hx
  · exact ⟨hb, (Hs.new wr _ _).grown hg (by simp; omega)⟩
  · obtain ⟨h0, h1⟩ := h.box x hx
    exact ⟨h0, (h1.alloc _).grown hg (by simp; omega)⟩
theorem Ent0.last {w wr w1 : World} {o : Off} {L : List (Nat × Nat)} (h : Ent0 w wr o L) (hg : wr.grownBy w1 (some (w.heap.size + 2))) : Ent0 w w1 o L := by
  have hs := hg.size
  have hb := h.big
  refine ⟨below_grown h.bel hg (by omega) (by omega), by omega, h.res.grown hg (by simp), h.off.grown hg (by simp), ?_⟩
  intro x hx
  obtain ⟨h0, h1⟩ := h.box x hx
  exact ⟨h0, h1.grown hg (by simp; omega)⟩
theorem ent_start (w : World) (o : Off) : Ent0 w (((w.alloc (.cells zeroO.cells 40)).alloc (.cells o.cells 40)).alloc (.map #[] 0)) o [] := by
  refine ⟨(((Below.refl _ _).alloc (Nat.le_refl _) _).alloc (by simp) _).alloc (by simp; omega) _, by simp, ((Hs.new w _ _).alloc _).alloc _, ?_, by simp⟩
  have := (Hs.new (w.alloc (.cells zeroO.cells 40)) 40 o.cells).alloc (.map #[] 0)
  rw [asz] at this
  exact this
abbrev clo (b : Nat) : Value := .func (.func 33) #[] #[.pointer (some ⟨b, 0, none⟩)]
/-- the map of keywords: which closure a keyword has, once the used ones are struck -/
def keyF (h b1 b2 b3 b4 : Nat) (used : List (List UInt8)) (k : List UInt8) : Option Value :=
  if k ∈ used then none else if k = kDo then some (clo b1) else if k = kUndo then some (clo b2) else if k = kPart then some (clo b3) else if k = kAmend then some (clo b4)
  else if k = kDue then some (.func (.func 35) #[] #[.pointer (some ⟨h + 1, 0, none⟩)]) else none
theorem keyF_upd (h b1 b2 b3 b4 : Nat) (used : List (List UInt8)) (s k : List UInt8) : upd (keyF h b1 b2 b3 b4 used) s none k = keyF h b1 b2 b3 b4 (s :: used) k := by
  unfold upd keyF
  by_cases e : k = s
  · rw [if_pos e, if_pos (List.mem_cons.2 (.inl e))]
  · rw [if_neg e]
    by_cases m : k ∈ used
    · rw [if_pos m, if_pos (List.mem_cons_of_mem _ m)]
    · have m2 : ¬ k ∈ s :: used := fun a => (List.mem_cons.1 a).elim e m
      rw [if_neg m, if_neg m2]
theorem keyF_start (h b1 b2 b3 b4 : Nat) (k : List UInt8) : upd (upd (upd (upd (upd (fun _ => none) kDo (some (clo b1))) kUndo (some (clo b2))) kPart (some (clo b3))) kAmend (some (clo b4))) kDue (some (.func (.func 35) #[] #[.pointer (some ⟨h + 1, 0, none⟩)])) k = keyF h b1 b2 b3 b4 [] k := by
  unfold upd keyF
  rw [if_neg (List.not_mem_nil)]
  by_cases h1 : k = kDo
  · subst h1; rfl
  by_cases h2 : k = kUndo
  · subst h2; rfl
  by_cases h3 : k = kPart
  · subst h3; rfl
  by_cases h4 : k = kAmend
  · subst h4; rfl
  by_cases h5 : k = kDue
  · subst h5; rfl
  simp only [h1, h2, h3, h4, h5, if_false]
structure EntSt (w wr : World) (n b1 b2 b3 b4 : Nat) (o : Off) (used : List (List UInt8)) : Prop where
  bel : Below w.heap.size w wr
  big : w.heap.size + 2 < wr.heap.size
  res : Hs wr w.heap.size 40 zeroO.cells
  off : Hs wr (w.heap.size + 1) 40 o.cells
  c1 : w.heap.size + 2 < b1 ∧ Hs wr b1 94 #[.pointer (some ⟨w.heap.size + 1, 1, none⟩)]
  c2 : w.heap.size + 2 < b2 ∧ Hs wr b2 94 #[.pointer (some ⟨w.heap.size + 1, 2, none⟩)]
  c3 : w.heap.size + 2 < b3 ∧ Hs wr b3 94 #[.pointer (some ⟨w.heap.size + 1, 4, none⟩)]
  c4 : w.heap.size + 2 < b4 ∧ Hs wr b4 94 #[.pointer (some ⟨w.heap.size + 1, 5, none⟩)]
  map : MapIs Tryz.prog 9 wr (w.heap.size + 2) n (keyF w.heap.size b1 b2 b3 b4 used)
theorem EntSt.drop {w wr w1 : World} {n n' b1 b2 b3 b4 : Nat} {o : Off} {used : List (List UInt8)} {s : List UInt8} (h : EntSt w wr n b1 b2 b3 b4 o used) (hg : wr.grownBy w1 (some (w.heap.size + 2))) (hm : MapIs Tryz.prog 9 w1 (w.heap.size + 2) n' (upd (keyF w.heap.size b1 b2 b3 b4 used) s none)) : EntSt w w1 n' b1 b2 b3 b4 o (s :: used) := by
  have hs := hg.size
  have hb := h.big
  exact ⟨below_grown h.bel hg (by omega) (by omega), by omega, h.res.grown hg (by simp), h.off.grown hg (by simp), ⟨h.c1.1, h.c1.2.grown hg (by have := h.c1.1; simp; omega)⟩, ⟨h.c2.1, h.c2.2.grown hg (by have := h.c2.1; simp; omega)⟩, ⟨h.c3.1, h.c3.2.grown hg (by have := h.c3.1; simp; omega)⟩, ⟨h.c4.1, h.c4.2.grown hg (by have := h.c4.1; simp; omega)⟩, hm.congr (keyF_upd _ _ _ _ _ _ _)⟩
theorem EntSt.set {w wr w1 : World} {n b1 b2 b3 b4 : Nat} {o o' : Off} {used : List (List UInt8)} (h : EntSt w wr n b1 b2 b3 b4 o used) (hb : Below wr.heap.size wr w1) (j : Nat) (u : Value) (ho : o.cells.setIfInBounds j u = o'.cells) : EntSt w (w1.setCell ⟨w.heap.size + 1, j, none⟩ u) n b1 b2 b3 b4 o' used := by
  have hs := hb.size
  have hg := h.big
  have f1 := h.c1.1
  have f2 := h.c2.1
  have f3 := h.c3.1
  have f4 := h.c4.1
  have e1 := h.c1.2.lt
  have e2 := h.c2.2.lt
  have e3 := h.c3.2.lt
  have e4 := h.c4.2.lt
  refine ⟨((h.bel.trans (hb.mono (by omega))).setCell (by simp) _), by simpa [World.setCell] using (show w.heap.size + 2 < w1.heap.size by omega), (h.res.below hb (by omega)).far (by simp) _, ?_, ⟨f1, (h.c1.2.below hb e1).far (by simp; omega) _⟩, ⟨f2, (h.c2.2.below hb e2).far (by simp; omega) _⟩, ⟨f3, (h.c3.2.below hb e3).far (by simp; omega) _⟩, ⟨f4, (h.c4.2.below hb e4).far (by simp; omega) _⟩, (h.map.below hb (by omega)).setCell (by simp) _⟩
  rw [← ho]
  exact (h.off.below hb (by omega)).put j u
end Go.Proofs.YtbmknjfgjphfbaaGreatDoor.C
