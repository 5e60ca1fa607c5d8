import Derived.Lib.ItoaNum
namespace Go.Proofs.YtcjkamnpkmkapaaDoor
/-- an entry -/
structure Off where
  name : ByteArray
  do_ : Int
  undo : Int
  due : Int
  part : Int
  amend : Int
/-- a byte of a name -/
def nameC (c : Nat) : Bool := c == 95 || (decide (48 ≤ c) && decide (c ≤ 57)) || (decide (97 ≤ c) && decide (c ≤ 122)) || (decide (65 ≤ c) && decide (c ≤ 90))
def nats (s : ByteArray) : List Nat := s.data.toList.map UInt8.toNat
def nameB (l : List Nat) : Bool := decide (1 ≤ l.length) && decide (l.length ≤ 100) && decide (97 ≤ l.getD 0 0) && decide (l.getD 0 0 ≤ 122) && l.all nameC
/-- num.Parse: the negated absolute value -/
def accN : List UInt8 → Int → Option Int
  | [], n => some n
  | c :: cs, n => if c.toNat < 48 ∨ 57 < c.toNat then none else if n < (-9223372036854775808 + ((c.toNat : Int) - 48)).tdiv 10 then none else accN cs (n * 10 - ((c.toNat : Int) - 48))
def finN (neg : Bool) (n lo hi : Int) : Option Int :=
  if neg = false ∧ n = -9223372036854775808 then none else
  if (if neg then n else -n) < lo ∨ hi < (if neg then n else -n) then none else some (if neg then n else -n)
def numP (l : List UInt8) (lo hi : Int) : Option Int :=
  if l.head? = some 45 then
    (if l.tail = [] ∨ l.tail.head? = some 48 then none else (accN l.tail 0).bind fun n => finN true n lo hi)
  else if l = [] ∨ (l.head? = some 48 ∧ l ≠ [48]) then none else (accN l 0).bind fun n => finN false n lo hi
def str (l : List UInt8) : ByteArray := ⟨l.toArray⟩
abbrev Wd := List UInt8 × Nat
def blankC (c : UInt8) : Bool := c == 32 || c == 9 || c == 13
def uncomment (l : List UInt8) : List UInt8 := l.takeWhile (· != 35)
/-- cur: the word under way; i: the offset of what follows -/
def wordsF (cur : List UInt8) (i : Nat) : List UInt8 → List Wd
  | [] => if cur = [] then [] else [(cur, i - cur.length)]
  | c :: cs => if blankC c then (if cur = [] then wordsF [] (i + 1) cs else (cur, i - cur.length) :: wordsF [] (i + 1) cs) else wordsF (cur ++ [c]) (i + 1) cs
def splitP (l : List UInt8) (i : Nat) : List Wd := wordsF [] i (uncomment l)
def kDo : List UInt8 := [100, 111]
def kUndo : List UInt8 := [117, 110, 100, 111]
def kPart : List UInt8 := [112, 97, 114, 116]
def kAmend : List UInt8 := [97, 109, 101, 110, 100]
def kDue : List UInt8 := [100, 117, 101]
def costP (v : List UInt8) : Option Int := if v = [45] then some (-1) else numP v 0 1048576
def setKey (k v : List UInt8) (o : Off) : Option Off :=
  if k = kDo then (costP v).map fun n => { o with do_ := n }
  else if k = kUndo then (costP v).map fun n => { o with undo := n }
  else if k = kPart then (costP v).map fun n => { o with part := n }
  else if k = kAmend then (costP v).map fun n => { o with amend := n }
  else (numP v 0 1073741824).map fun n => { o with due := n }
def keyB (k : List UInt8) : Bool := k == kDo || k == kUndo || k == kPart || k == kAmend || k == kDue
def entryF : List Wd → Nat → List (List UInt8) → Off → Except Nat Off
  | [], _, _, o => .ok o
  | [_], i, _, _ => .error i
  | k :: v :: r, i, used, o =>
    if keyB k.1 = false ∨ k.1 ∈ used then .error i else
    match setKey k.1 v.1 o with
    | none => .error (i + 1)
    | some o' => entryF r (i + 2) (k.1 :: used) o'
def initO (nm : List UInt8) : Off := ⟨str nm, 0, -1, 0, -1, -1⟩
def lineP (at_ : Nat) (l : List UInt8) (acc : List Off) : Except (Int × Nat) (List Off) :=
  match splitP l at_ with
  | [] => .ok acc
  | w :: ws =>
    if nameB (nats (str w.1)) = false then .error (2, w.2)
    else if w.1 ∈ acc.map (fun o => o.name.data.toList) then .error (4, w.2)
    else if acc.length = 256 then .error (3, w.2)
    else match entryF ws 1 [] (initO w.1) with
    | .error i => .error (2, ((w :: ws).getD i ([], 0)).2)
    | .ok o => .ok (acc ++ [o])
def linesP : List (Nat × List UInt8) → List Off → Except (Int × Nat) (List Off)
  | [], acc => .ok acc
  | x :: xs, acc => match lineP x.1 x.2 acc with
    | .error e => .error e
    | .ok acc' => linesP xs acc'
def pieces (start : Nat) (cur : List UInt8) : List UInt8 → List (Nat × List UInt8)
  | [] => [(start, cur)]
  | c :: cs => if c = 10 then (start, cur) :: pieces (start + cur.length + 1) [] cs else pieces start (cur ++ [c]) cs
def parseP (l : List UInt8) : Except (Int × Nat) (List Off) := linesP (pieces 0 [] l) []
def costT (n : Int) : List UInt8 := if n = -1 then [45] else Lib.itoa n
def lineW (o : Off) : List UInt8 :=
  o.name.data.toList ++ [32, 100, 111, 32] ++ costT o.do_ ++ [32, 117, 110, 100, 111, 32] ++ costT o.undo ++ ([32, 100, 117, 101, 32] ++ Lib.itoa o.due ++ [32, 112, 97, 114, 116, 32] ++ costT o.part) ++ ([32, 97, 109, 101, 110, 100, 32] ++ costT o.amend ++ [10])
def costB (n : Int) : Bool := decide (-1 ≤ n) && decide (n ≤ 1048576)
def rightB (o : Off) : Bool := costB o.do_ && costB o.undo && costB o.part && costB o.amend && nameB (nats o.name) && decide (0 ≤ o.due) && decide (o.due ≤ 1073741824)
def writeF : List Off → List (List UInt8) → Option (List UInt8)
  | [], _ => some []
  | o :: r, seen => if rightB o = false ∨ o.name.data.toList ∈ seen then none else (writeF r (seen ++ [o.name.data.toList])).map (lineW o ++ ·)
def writeP (l : List Off) : List UInt8 := if 256 < l.length then [] else (writeF l []).getD []

/-! ### numbers -/
theorem tdiv_le (d : Int) (h : 0 ≤ d) (h' : d ≤ 9) : (-9223372036854775808 + d).tdiv 10 ≤ -922337203685477579 := by
  have : d = 0 ∨ d = 1 ∨ d = 2 ∨ d = 3 ∨ d = 4 ∨ d = 5 ∨ d = 6 ∨ d = 7 ∨ d = 8 ∨ d = 9 := by omega
  rcases this with rfl | rfl | rfl | rfl | rfl | rfl | rfl | rfl | rfl | rfl <;> decide
theorem accN_append (a b : List UInt8) : ∀ n, accN (a ++ b) n = (accN a n).bind (accN b) := by
  induction a with
  | nil => intro n; rfl
  | cons c cs ih =>
    intro n
    simp only [List.cons_append, accN]
    split
    · rfl
    · split
      · rfl
      · exact ih _
theorem digit_nat (d : Nat) (h : d < 10) : (UInt8.ofNat (48 + d)).toNat = 48 + d := by
  simp; omega
theorem accN_dig (d : Nat) (h : d < 10) (n : Int) (hn : -922337203685477579 ≤ n) : accN [UInt8.ofNat (48 + d)] n = some (n * 10 - d) := by
  simp only [accN, digit_nat d h]
  rw [if_neg (by omega), if_neg (by have := tdiv_le (((48 + d : Nat) : Int) - 48) (by omega) (by omega); omega)]
  congr 1; omega
theorem accN_dec (u : Nat) (h : u ≤ 9223372036854775790) : accN (Lib.decDigits u) 0 = some (-(u : Int)) := by
  induction u using Nat.strongRecOn with
  | _ u ih =>
    rw [Lib.decDigits]
    split
    · rename_i hu
      rw [accN_dig u hu 0 (by omega)]; congr 1; omega
    · rename_i hu
      rw [accN_append, ih (u / 10) (by omega) (by omega)]
      simp only [Option.bind_some]
      rw [accN_dig (u % 10) (by omega) _ (by omega)]
      congr 1; omega
theorem dec_ne (u : Nat) : Lib.decDigits u ≠ [] := by
  rw [Lib.decDigits]; split <;> simp
theorem dec_dig (u : Nat) : ∀ c ∈ Lib.decDigits u, 48 ≤ c.toNat ∧ c.toNat ≤ 57 := by
  induction u using Nat.strongRecOn with
  | _ u ih =>
    rw [Lib.decDigits]
    split
    · rename_i hu
      intro c hc
      rw [List.mem_singleton] at hc
      subst hc
      rw [digit_nat u hu]; omega
    · rename_i hu
      intro c hc
      rw [List.mem_append, List.mem_singleton] at hc
      rcases hc with hc | rfl
      · exact ih _ (by omega) c hc
      · rw [digit_nat _ (by omega)]; omega
theorem dec_head (u : Nat) (h : 0 < u) : (Lib.decDigits u).head? ≠ some 48 := by
  induction u using Nat.strongRecOn with
  | _ u ih =>
    rw [Lib.decDigits]
    split
    · rename_i hu
      intro he
      simp only [List.head?_cons, Option.some.injEq] at he
      have := congrArg UInt8.toNat he
      rw [digit_nat u hu] at this
      simp at this; omega
    · rename_i hu
      have hne := dec_ne (u / 10)
      rw [List.head?_append]
      cases hh : (Lib.decDigits (u / 10)).head? with
      | none => exact absurd (List.head?_eq_none_iff.1 hh) hne
      | some c =>
        have := ih (u / 10) (by omega) (by omega)
        rw [hh] at this
        simpa using this
theorem numP_dec (u : Nat) (hi : Int) (h : (u : Int) ≤ hi) (hu : u ≤ 9223372036854775790) : numP (Lib.decDigits u) 0 hi = some (u : Int) := by
  have hne := dec_ne u
  have hd := dec_dig u
  have h45 : (Lib.decDigits u).head? ≠ some 45 := by
    intro he
    have := hd 45 (List.mem_of_mem_head? he)
    simp at this
  unfold numP
  rw [if_neg h45, if_neg, accN_dec u hu]
  · simp only [Option.bind_some, finN]
    rw [if_neg (by omega)]
    simp; omega
  · rintro (he | ⟨he, h2⟩)
    · exact hne he
    · rcases Nat.eq_zero_or_pos u with rfl | hp
      · exact h2 (by rw [Lib.decDigits]; simp)
      · exact dec_head u hp he
theorem numP_itoa (n hi : Int) (h0 : 0 ≤ n) (h : n ≤ hi) (hu : n ≤ 9223372036854775790) : numP (Lib.itoa n) 0 hi = some n := by
  obtain ⟨u, rfl⟩ := Int.eq_ofNat_of_zero_le h0
  unfold Lib.itoa
  rw [if_neg (by omega), Int.toNat_natCast]
  exact numP_dec u hi h (by omega)
theorem numP_range {l : List UInt8} {lo hi n : Int} (h : numP l lo hi = some n) : lo ≤ n ∧ n ≤ hi := by
  have fin : ∀ (neg : Bool) (m : Int), finN neg m lo hi = some n → lo ≤ n ∧ n ≤ hi := by
    intro neg m h
    unfold finN at h
    generalize (if neg = true then m else -m) = k at h
    by_cases h1 : neg = false ∧ m = -9223372036854775808
    · rw [if_pos h1] at h; cases h
    · rw [if_neg h1] at h
      by_cases h2 : k < lo ∨ hi < k
      · rw [if_pos h2] at h; cases h
      · rw [if_neg h2] at h; injection h with h; omega
  unfold numP at h
  split at h
  · split at h
    · cases h
    · obtain ⟨m, _, hm⟩ := Option.bind_eq_some_iff.1 h
      exact fin _ _ hm
  · split at h
    · cases h
    · obtain ⟨m, _, hm⟩ := Option.bind_eq_some_iff.1 h
      exact fin _ _ hm
theorem costP_range {l : List UInt8} {n : Int} (h : costP l = some n) : costB n = true := by
  unfold costP at h
  split at h
  · cases h; decide
  · have := numP_range h
    simp [costB]; omega
theorem costP_costT (n : Int) (h : costB n = true) : costP (costT n) = some n := by
  simp [costB] at h
  unfold costT
  split
  · rename_i e; subst e; decide
  · rename_i e
    unfold costP
    rw [if_neg, numP_itoa n _ (by omega) (by omega) (by omega)]
    intro he
    unfold Lib.itoa at he
    rw [if_neg (by omega)] at he
    have := dec_dig n.toNat 45 (by rw [he]; simp)
    simp at this
end Go.Proofs.YtcjkamnpkmkapaaDoor
