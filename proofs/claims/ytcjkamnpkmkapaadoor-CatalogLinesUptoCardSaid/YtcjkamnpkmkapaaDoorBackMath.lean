import Derived.Test.YtcjkamnpkmkapaaDoorWrite
import Derived.Test.YtcjkamnpkmkapaaDoorParseMath
namespace Go.Proofs.YtcjkamnpkmkapaaDoor
theorem pieces_app (a rest : List UInt8) (h : ∀ c ∈ a, c ≠ 10) : ∀ (st : Nat) (cur : List UInt8), pieces st cur (a ++ 10 :: rest) = (st, cur ++ a) :: pieces (st + cur.length + a.length + 1) [] rest := by
  induction a with
  | nil => intro st cur; simp [pieces]
  | cons c a ih =>
    intro st cur
    rw [List.cons_append, pieces, if_neg (h c (List.mem_cons_self ..)), ih (fun x hx => h x (List.mem_cons_of_mem _ hx))]
    simp only [List.append_assoc, List.singleton_append, List.length_append, List.length_cons, List.length_nil]
    rw [show st + (cur.length + (0 + 1)) + a.length + 1 = st + cur.length + (a.length + 1) + 1 by omega]
theorem words_app (a rest : List UInt8) (h : ∀ c ∈ a, blankC c = false) : ∀ (cur : List UInt8) (i : Nat), cur ++ a ≠ [] → cur.length ≤ i → ∃ j j', wordsF cur i (a ++ 32 :: rest) = (cur ++ a, j) :: wordsF [] j' rest := by
  induction a with
  | nil =>
    intro cur i hne hi
    rw [List.append_nil] at hne ⊢
    exact ⟨_, _, by rw [List.nil_append, wordsF, if_pos (by decide), if_neg hne]⟩
  | cons c a ih =>
    intro cur i hne hi
    obtain ⟨j, j', e⟩ := ih (fun x hx => h x (List.mem_cons_of_mem _ hx)) (cur ++ [c]) (i + 1) (by simp) (by simp; omega)
    refine ⟨j, j', ?_⟩
    rw [List.cons_append, wordsF, h c (List.mem_cons_self ..), if_neg (by decide), e]
    simp
theorem words_last (a : List UInt8) (h : ∀ c ∈ a, blankC c = false) : ∀ (cur : List UInt8) (i : Nat), cur ++ a ≠ [] → ∃ j, wordsF cur i a = [(cur ++ a, j)] := by
  induction a with
  | nil =>
    intro cur i hne
    rw [List.append_nil] at hne ⊢
    exact ⟨_, by rw [wordsF, if_neg hne]⟩
  | cons c a ih =>
    intro cur i hne
    obtain ⟨j, e⟩ := ih (fun x hx => h x (List.mem_cons_of_mem _ hx)) (cur ++ [c]) (i + 1) (by simp)
    refine ⟨j, ?_⟩
    rw [wordsF, h c (List.mem_cons_self ..), if_neg (by decide), e]
    simp
/-- a byte of a word that is written -/
def clean (c : UInt8) : Prop := c ≠ 10 ∧ c ≠ 35 ∧ blankC c = false
theorem clean_of {c : UInt8} (h : 33 ≤ c.toNat) (h2 : c.toNat ≠ 35) : clean c := by
  refine ⟨fun e => ?_, fun e => ?_, ?_⟩
  · subst e; simp at h
  · subst e; simp at h2
  · unfold blankC
    have e : ∀ m : UInt8, m.toNat < 33 → (c == m) = false := fun m hm => beq_eq_false_iff_ne.2 (fun e => by subst e; omega)
    rw [e 32 (by decide), e 9 (by decide), e 13 (by decide)]; rfl
theorem clean_dec (u : Nat) : ∀ c ∈ Lib.decDigits u, clean c := fun c hc => clean_of (by have := dec_dig u c hc; omega) (by have := dec_dig u c hc; omega)
theorem clean_itoa (n : Int) (h : 0 ≤ n) : ∀ c ∈ Lib.itoa n, clean c := by
  unfold Lib.itoa
  rw [if_neg (by omega)]
  exact clean_dec _
theorem itoa_ne (n : Int) (h : 0 ≤ n) : Lib.itoa n ≠ [] := by
  unfold Lib.itoa
  rw [if_neg (by omega)]
  exact dec_ne _
theorem clean_cost (n : Int) (h : costB n = true) : (∀ c ∈ costT n, clean c) ∧ costT n ≠ [] := by
  simp [costB] at h
  unfold costT
  split
  · refine ⟨fun c hc => ?_, by simp⟩
    rw [List.mem_singleton] at hc; subst hc; exact clean_of (by decide) (by decide)
  · exact ⟨clean_itoa n (by omega), itoa_ne n (by omega)⟩
theorem nameC_clean (c : UInt8) (h : nameC c.toNat = true) : clean c := by
  simp only [nameC, Bool.or_eq_true, Bool.and_eq_true, decide_eq_true_eq, beq_iff_eq] at h
  exact clean_of (by omega) (by omega)
theorem clean_name (s : ByteArray) (h : nameB (nats s) = true) : (∀ c ∈ s.data.toList, clean c) ∧ s.data.toList ≠ [] := by
  simp only [nameB, Bool.and_eq_true, decide_eq_true_eq] at h
  refine ⟨fun c hc => nameC_clean c ((List.all_eq_true.1 h.2) _ (List.mem_map.2 ⟨c, hc, rfl⟩)), fun e => ?_⟩
  have := h.1.1.1.1
  unfold nats at this
  rw [e] at this
  simp at this
theorem uncomment_self (l : List UInt8) (h : ∀ c ∈ l, c ≠ 35) : uncomment l = l := by
  unfold uncomment
  induction l with
  | nil => rfl
  | cons c l ih =>
    rw [List.takeWhile_cons, if_pos (by simpa using h c (List.mem_cons_self ..)), ih (fun x hx => h x (List.mem_cons_of_mem _ hx))]
/-- a line as it is written, without its end -/
def lineL (o : Off) : List UInt8 :=
  o.name.data.toList ++ 32 :: (kDo ++ 32 :: (costT o.do_ ++ 32 :: (kUndo ++ 32 :: (costT o.undo ++ 32 :: (kDue ++ 32 :: (Lib.itoa o.due ++ 32 :: (kPart ++ 32 :: (costT o.part ++ 32 :: (kAmend ++ 32 :: costT o.amend)))))))))
theorem lineW_eq (o : Off) : lineW o = lineL o ++ [10] := by
  unfold lineW lineL kDo kUndo kDue kPart kAmend
  simp only [List.append_assoc, List.cons_append, List.nil_append]
def Rt (o : Off) : Prop := costB o.do_ = true ∧ costB o.undo = true ∧ costB o.part = true ∧ costB o.amend = true ∧ 0 ≤ o.due ∧ o.due ≤ 1073741824
theorem right_iff (o : Off) : rightB o = true ↔ nameB (nats o.name) = true ∧ Rt o := by
  unfold rightB Rt
  simp only [Bool.and_eq_true, decide_eq_true_eq]
  constructor
  · rintro ⟨⟨⟨⟨⟨⟨a, b⟩, c⟩, d⟩, e⟩, f⟩, g⟩; exact ⟨e, a, b, c, d, f, g⟩
  · rintro ⟨e, a, b, c, d, f, g⟩; exact ⟨⟨⟨⟨⟨⟨a, b⟩, c⟩, d⟩, e⟩, f⟩, g⟩
theorem clean_keys : (∀ c ∈ kDo, clean c) ∧ (∀ c ∈ kUndo, clean c) ∧ (∀ c ∈ kDue, clean c) ∧ (∀ c ∈ kPart, clean c) ∧ (∀ c ∈ kAmend, clean c) := by
  have e : ∀ l : List UInt8, l.all (fun c => decide (33 ≤ c.toNat) && decide (c.toNat ≠ 35)) = true → ∀ c ∈ l, clean c := fun l hl c hc => by
    have := (List.all_eq_true.1 hl) c hc
    simp only [Bool.and_eq_true, decide_eq_true_eq] at this
    exact clean_of this.1 this.2
  exact ⟨e _ (by decide), e _ (by decide), e _ (by decide), e _ (by decide), e _ (by decide)⟩
theorem mem_line (o : Off) (h : rightB o = true) : ∀ c ∈ lineL o, c ≠ 10 ∧ c ≠ 35 := by
  obtain ⟨hn, h1, h2, h3, h4, h5, h6⟩ := (right_iff o).1 h
  obtain ⟨k1, k2, k3, k4, k5⟩ := clean_keys
  have c0 := (clean_name o.name hn).1
  have c1 := (clean_cost o.do_ h1).1
  have c2 := (clean_cost o.undo h2).1
  have c3 := (clean_cost o.part h3).1
  have c4 := (clean_cost o.amend h4).1
  have c5 := clean_itoa o.due h5
  have sp : ∀ (a b : List UInt8), (∀ c ∈ a, clean c) → (∀ c ∈ b, c ≠ 10 ∧ c ≠ 35) → ∀ c ∈ a ++ 32 :: b, c ≠ 10 ∧ c ≠ 35 := by
    intro a b ha hb c hc
    rcases List.mem_append.1 hc with hc | hc
    · exact ⟨(ha c hc).1, (ha c hc).2.1⟩
    · rcases List.mem_cons.1 hc with rfl | hc
      · exact ⟨by decide, by decide⟩
      · exact hb c hc
  unfold lineL
  refine sp _ _ c0 (sp _ _ k1 (sp _ _ c1 (sp _ _ k2 (sp _ _ c2 (sp _ _ k3 (sp _ _ c5 (sp _ _ k4 (sp _ _ c3 (sp _ _ k5 fun c hc => ⟨(c4 c hc).1, (c4 c hc).2.1⟩)))))))))
theorem split_line (o : Off) (h : rightB o = true) (st : Nat) : ∃ p0 p1 p2 p3 p4 p5 p6 p7 p8 p9 p10, splitP (lineL o) st = [(o.name.data.toList, p0), (kDo, p1), (costT o.do_, p2), (kUndo, p3), (costT o.undo, p4), (kDue, p5), (Lib.itoa o.due, p6), (kPart, p7), (costT o.part, p8), (kAmend, p9), (costT o.amend, p10)] := by
  obtain ⟨hn, h1, h2, h3, h4, h5, h6⟩ := (right_iff o).1 h
  obtain ⟨k1, k2, k3, k4, k5⟩ := clean_keys
  unfold splitP
  rw [uncomment_self _ (fun c hc => (mem_line o h c hc).2)]
  unfold lineL
  have W : ∀ (a b : List UInt8) (i : Nat), (∀ c ∈ a, clean c) → a ≠ [] → ∃ j j', wordsF [] i (a ++ 32 :: b) = (a, j) :: wordsF [] j' b := fun a b i ha hne => by
    obtain ⟨j, j', e⟩ := words_app a b (fun c hc => (ha c hc).2.2) [] i (by simpa using hne) (by simp)
    exact ⟨j, j', by simpa using e⟩
  obtain ⟨p0, q0, e0⟩ := W o.name.data.toList _ st (clean_name o.name hn).1 (clean_name o.name hn).2
  obtain ⟨p1, q1, e1⟩ := W kDo _ q0 k1 (by decide)
  obtain ⟨p2, q2, e2⟩ := W (costT o.do_) _ q1 (clean_cost _ h1).1 (clean_cost _ h1).2
  obtain ⟨p3, q3, e3⟩ := W kUndo _ q2 k2 (by decide)
  obtain ⟨p4, q4, e4⟩ := W (costT o.undo) _ q3 (clean_cost _ h2).1 (clean_cost _ h2).2
  obtain ⟨p5, q5, e5⟩ := W kDue _ q4 k3 (by decide)
  obtain ⟨p6, q6, e6⟩ := W (Lib.itoa o.due) _ q5 (clean_itoa _ h5) (itoa_ne _ h5)
  obtain ⟨p7, q7, e7⟩ := W kPart _ q6 k4 (by decide)
  obtain ⟨p8, q8, e8⟩ := W (costT o.part) _ q7 (clean_cost _ h3).1 (clean_cost _ h3).2
  obtain ⟨p9, q9, e9⟩ := W kAmend _ q8 k5 (by decide)
  obtain ⟨p10, e10⟩ := words_last (costT o.amend) (fun c hc => ((clean_cost _ h4).1 c hc).2.2) [] q9 (by simpa using (clean_cost _ h4).2)
  exact ⟨p0, p1, p2, p3, p4, p5, p6, p7, p8, p9, p10, by rw [e0, e1, e2, e3, e4, e5, e6, e7, e8, e9, e10]; rfl⟩
theorem set_do (v : List UInt8) (o : Off) (n : Int) (h : costP v = some n) : setKey kDo v o = some { o with do_ := n } := by unfold setKey; rw [if_pos rfl, h]; rfl
theorem set_undo (v : List UInt8) (o : Off) (n : Int) (h : costP v = some n) : setKey kUndo v o = some { o with undo := n } := by unfold setKey; rw [if_neg (by decide), if_pos rfl, h]; rfl
theorem set_part (v : List UInt8) (o : Off) (n : Int) (h : costP v = some n) : setKey kPart v o = some { o with part := n } := by unfold setKey; rw [if_neg (by decide), if_neg (by decide), if_pos rfl, h]; rfl
theorem set_amend (v : List UInt8) (o : Off) (n : Int) (h : costP v = some n) : setKey kAmend v o = some { o with amend := n } := by unfold setKey; rw [if_neg (by decide), if_neg (by decide), if_neg (by decide), if_pos rfl, h]; rfl
theorem set_due (v : List UInt8) (o : Off) (n : Int) (h : numP v 0 1073741824 = some n) : setKey kDue v o = some { o with due := n } := by unfold setKey; rw [if_neg (by decide), if_neg (by decide), if_neg (by decide), if_neg (by decide), h]; rfl
theorem entry_line (o : Off) (h : rightB o = true) (p1 p2 p3 p4 p5 p6 p7 p8 p9 p10 : Nat) : entryF [(kDo, p1), (costT o.do_, p2), (kUndo, p3), (costT o.undo, p4), (kDue, p5), (Lib.itoa o.due, p6), (kPart, p7), (costT o.part, p8), (kAmend, p9), (costT o.amend, p10)] 1 [] (initO o.name.data.toList) = .ok o := by
  obtain ⟨hn, h1, h2, h3, h4, h5, h6⟩ := (right_iff o).1 h
  have c1 := costP_costT _ h1
  have c2 := costP_costT _ h2
  have c3 := costP_costT _ h3
  have c4 := costP_costT _ h4
  have c5 := numP_itoa o.due 1073741824 h5 h6 (by omega)
  simp only [entryF]
  rw [if_neg (by decide), set_do _ _ _ c1]
  simp only
  rw [if_neg (by decide), set_undo _ _ _ c2]
  simp only
  rw [if_neg (by decide), set_due _ _ _ c5]
  simp only
  rw [if_neg (by decide), set_part _ _ _ c3]
  simp only
  rw [if_neg (by decide), set_amend _ _ _ c4]
  simp only [initO, str_data]
theorem line_back (o : Off) (h : rightB o = true) (st : Nat) (acc : List Off) (hn : o.name.data.toList ∉ nmL acc) (hl : acc.length ≠ 256) : lineP st (lineL o) acc = .ok (acc ++ [o]) := by
  obtain ⟨p0, p1, p2, p3, p4, p5, p6, p7, p8, p9, p10, e⟩ := split_line o h st
  exact lineP_good e (by rw [str_data]; exact ((right_iff o).1 h).1) hn hl (entry_line o h p1 p2 p3 p4 p5 p6 p7 p8 p9 p10)
theorem lines_back (l : List Off) : ∀ (acc : List Off) (st : Nat) (t : List UInt8), writeF l (nmL acc) = some t → acc.length + l.length ≤ 256 → linesP (pieces st [] t) acc = .ok (acc ++ l) := by
  induction l with
  | nil =>
    intro acc st t ht _
    rw [writeF] at ht
    injection ht with ht
    subst ht
    simp [pieces, linesP, lineP_nil]
  | cons o r ih =>
    intro acc st t ht hl
    rw [writeF] at ht
    by_cases hb : rightB o = false ∨ o.name.data.toList ∈ nmL acc
    · rw [if_pos hb] at ht; cases ht
    · rw [if_neg hb] at ht
      obtain ⟨u, hu, rfl⟩ := Option.map_eq_some_iff.1 ht
      have hr : rightB o = true := by
        cases e : rightB o with
        | true => rfl
        | false => exact absurd (.inl e) hb
      rw [lineW_eq, List.append_assoc, List.singleton_append, pieces_app _ _ (fun c hc => (mem_line o hr c hc).1)]
      have hlen : acc.length ≠ 256 := by simp at hl; omega
      simp only [linesP, List.nil_append]
      rw [line_back o hr st acc (fun a => hb (.inr a)) hlen]
      simp only
      have := ih (acc ++ [o]) (st + ([] : List UInt8).length + (lineL o).length + 1) u (by unfold nmL at hu ⊢; rw [List.map_append]; exact hu) (by simp at hl ⊢; omega)
      rw [this, List.append_assoc]; rfl
theorem parse_nil : parseP [] = .ok [] := by simp [parseP, pieces, linesP, lineP_nil]
theorem writeF_len (l : List Off) : ∀ (seen : List (List UInt8)) (t : List UInt8), writeF l seen = some t → t.length ≤ l.length * 1000 ∧ (l ≠ [] → t ≠ []) := by
  induction l with
  | nil => intro seen t ht; rw [writeF] at ht; injection ht with ht; subst ht; simp
  | cons o r ih =>
    intro seen t ht
    rw [writeF] at ht
    by_cases hb : rightB o = false ∨ o.name.data.toList ∈ seen
    · rw [if_pos hb] at ht; cases ht
    · rw [if_neg hb] at ht
      obtain ⟨u, hu, rfl⟩ := Option.map_eq_some_iff.1 ht
      have hr : rightB o = true := by
        cases e : rightB o with
        | true => rfl
        | false => exact absurd (.inl e) hb
      obtain ⟨⟨hn1, hn2⟩, ⟨h1, h2, h3, h4⟩, h5, h6⟩ := name_size hr
      have hl := lineW_len o (costT_len _ h1) (costT_len _ h2) (itoa_len _ h5 h6) (costT_len _ h3) (costT_len _ h4) hn2
      have := (ih _ _ hu).1
      refine ⟨by rw [List.length_append, List.length_cons]; omega, fun _ e => ?_⟩
      have := congrArg List.length e
      rw [List.length_append, lineW_eq, List.length_append] at this
      simp at this
/-- writing, then parsing -/
theorem write_back (l : List Off) : (writeP l).length ≤ 256000 ∧ ((writeP l = [] ∧ parseP (writeP l) = .ok []) ∨ (writeP l ≠ [] ∧ parseP (writeP l) = .ok l)) := by
  unfold writeP
  by_cases h : 256 < l.length
  · rw [if_pos h]; exact ⟨by simp, .inl ⟨rfl, parse_nil⟩⟩
  · rw [if_neg h]
    cases hw : writeF l [] with
    | none => exact ⟨by simp, .inl ⟨rfl, parse_nil⟩⟩
    | some t =>
      have hl := writeF_len l [] t hw
      have hb := lines_back l [] 0 t hw (by simp; omega)
      refine ⟨by simp; omega, ?_⟩
      by_cases ht : t = []
      · subst ht; exact .inl ⟨rfl, parse_nil⟩
      · exact .inr ⟨ht, by simpa [parseP] using hb⟩
/-! ### what is parsed can be written -/
structure Vd (l : List Off) : Prop where
  len : l.length ≤ 256
  rt : ∀ o ∈ l, rightB o = true
  nd : (nmL l).Nodup
theorem setKey_rt {k v : List UInt8} {o o' : Off} (hr : Rt o) (h : setKey k v o = some o') : Rt o' := by
  obtain ⟨h1, h2, h3, h4, h5, h6⟩ := hr
  unfold setKey at h
  split at h
  · obtain ⟨n, hn, rfl⟩ := Option.map_eq_some_iff.1 h; exact ⟨costP_range hn, h2, h3, h4, h5, h6⟩
  split at h
  · obtain ⟨n, hn, rfl⟩ := Option.map_eq_some_iff.1 h; exact ⟨h1, costP_range hn, h3, h4, h5, h6⟩
  split at h
  · obtain ⟨n, hn, rfl⟩ := Option.map_eq_some_iff.1 h; exact ⟨h1, h2, costP_range hn, h4, h5, h6⟩
  split at h
  · obtain ⟨n, hn, rfl⟩ := Option.map_eq_some_iff.1 h; exact ⟨h1, h2, h3, costP_range hn, h5, h6⟩
  · obtain ⟨n, hn, rfl⟩ := Option.map_eq_some_iff.1 h
    have := numP_range hn
    exact ⟨h1, h2, h3, h4, this.1, this.2⟩
theorem entryF_rt (ws : List Wd) : ∀ (i : Nat) (used : List (List UInt8)) (o o' : Off), Rt o → entryF ws i used o = .ok o' → Rt o' := by
  match ws with
  | [] => intro i used o o' hr h; rw [entryF] at h; injection h with h; subst h; exact hr
  | [x] => intro i used o o' hr h; rw [entryF] at h; cases h
  | x :: y :: r =>
    intro i used o o' hr h
    rw [entryF] at h
    by_cases hb : keyB x.1 = false ∨ x.1 ∈ used
    · rw [if_pos hb] at h; cases h
    · rw [if_neg hb] at h
      cases hs : setKey x.1 y.1 o with
      | none => rw [hs] at h; cases h
      | some o2 => rw [hs] at h; exact entryF_rt r _ _ _ _ (setKey_rt hr hs) h
theorem lineP_vd {st : Nat} {l : List UInt8} {acc acc' : List Off} (hv : Vd acc) (h : lineP st l acc = .ok acc') : Vd acc' := by
  unfold lineP at h
  cases hs : splitP l st with
  | nil => rw [hs] at h; injection h with h; subst h; exact hv
  | cons w ws =>
    rw [hs] at h
    simp only at h
    by_cases h1 : nameB (nats (str w.1)) = false
    · rw [if_pos h1] at h; cases h
    rw [if_neg h1] at h
    by_cases h2 : w.1 ∈ acc.map (fun o => o.name.data.toList)
    · rw [if_pos h2] at h; cases h
    rw [if_neg h2] at h
    by_cases h3 : acc.length = 256
    · rw [if_pos h3] at h; cases h
    rw [if_neg h3] at h
    cases he : entryF ws 1 [] (initO w.1) with
    | error i => rw [he] at h; cases h
    | ok o =>
      rw [he] at h
      injection h with h
      subst h
      have hf := entryF_facts ws 1 [] (initO w.1)
      rw [he] at hf
      have hn : o.name = str w.1 := hf
      have hrt := entryF_rt ws 1 [] _ _ ⟨rfl, rfl, rfl, rfl, (by show (0 : Int) ≤ 0; decide), (by show (0 : Int) ≤ 1073741824; decide)⟩ he
      have hlen := hv.len
      refine ⟨by simp; omega, fun x hx => ?_, ?_⟩
      · rcases List.mem_append.1 hx with hx | hx
        · exact hv.rt x hx
        · rw [List.mem_singleton] at hx
          subst hx
          exact (right_iff x).2 ⟨by rw [hn]; simpa using h1, hrt⟩
      · have hnd := hv.nd
        unfold nmL at hnd ⊢
        rw [List.map_append, List.nodup_append]
        refine ⟨hnd, by simp, fun a ha b hb => ?_⟩
        simp only [List.map_cons, List.map_nil, List.mem_singleton] at hb
        subst hb
        rw [hn, data_str]
        rintro rfl
        exact h2 ha
theorem linesP_vd (ps : List (Nat × List UInt8)) : ∀ {acc n : List Off}, Vd acc → linesP ps acc = .ok n → Vd n := by
  induction ps with
  | nil => intro acc n hv h; rw [linesP] at h; injection h with h; subst h; exact hv
  | cons x ps ih =>
    intro acc n hv h
    rw [linesP] at h
    cases hl : lineP x.1 x.2 acc with
    | error e => rw [hl] at h; cases h
    | ok acc' => rw [hl] at h; exact ih (lineP_vd hv hl) h
theorem parse_vd {s : List UInt8} {n : List Off} (h : parseP s = .ok n) : Vd n := linesP_vd _ ⟨by simp, by simp, by simp [nmL]⟩ h
theorem writeF_vd (l : List Off) : ∀ (seen : List (List UInt8)), (∀ o ∈ l, rightB o = true) → (seen ++ nmL l).Nodup → ∃ t, writeF l seen = some t := by
  induction l with
  | nil => intro seen _ _; exact ⟨[], rfl⟩
  | cons o r ih =>
    intro seen hr hnd
    have e : seen ++ nmL (o :: r) = (seen ++ [o.name.data.toList]) ++ nmL r := by simp [nmL]
    obtain ⟨t, ht⟩ := ih (seen ++ [o.name.data.toList]) (fun x hx => hr x (List.mem_cons_of_mem _ hx)) (by rw [← e]; exact hnd)
    refine ⟨lineW o ++ t, ?_⟩
    rw [writeF, if_neg, ht]
    · rfl
    · rintro (a | a)
      · rw [hr o (List.mem_cons_self ..)] at a; cases a
      · have := (List.nodup_append.1 hnd).2.2 _ a o.name.data.toList (by simp [nmL])
        exact this rfl
/-- a parsed catalogue, written and parsed again -/
theorem parse_back {s : List UInt8} {n : List Off} (h : parseP s = .ok n) : n.length ≤ 256 ∧ (writeP n).length ≤ 256000 ∧ (writeP n = [] ↔ n = []) ∧ parseP (writeP n) = .ok n := by
  have hv := parse_vd h
  obtain ⟨t, ht⟩ := writeF_vd n [] hv.rt (by simpa using hv.nd)
  have hw : writeP n = t := by unfold writeP; rw [if_neg (by have := hv.len; omega), ht]; rfl
  have hl := writeF_len n [] t ht
  have hb := lines_back n [] 0 t ht (by have := hv.len; simp; omega)
  refine ⟨hv.len, by rw [hw]; have := hv.len; omega, ?_, by rw [hw]; simpa [parseP] using hb⟩
  rw [hw]
  constructor
  · intro e
    by_cases hn : n = []
    · exact hn
    · exact absurd e (hl.2 hn)
  · rintro rfl
    rw [writeF] at ht
    injection ht with ht
    exact ht.symm
theorem lineP_code {st : Nat} {l : List UInt8} {acc : List Off} {e : Int × Nat} (h : lineP st l acc = .error e) : e.1 = 2 ∨ e.1 = 3 ∨ e.1 = 4 := by
  unfold lineP at h
  cases hs : splitP l st with
  | nil => rw [hs] at h; cases h
  | cons w ws =>
    rw [hs] at h
    simp only at h
    by_cases h1 : nameB (nats (str w.1)) = false
    · rw [if_pos h1] at h; injection h with h; subst h; exact .inl rfl
    rw [if_neg h1] at h
    by_cases h2 : w.1 ∈ acc.map (fun o => o.name.data.toList)
    · rw [if_pos h2] at h; injection h with h; subst h; exact .inr (.inr rfl)
    rw [if_neg h2] at h
    by_cases h3 : acc.length = 256
    · rw [if_pos h3] at h; injection h with h; subst h; exact .inr (.inl rfl)
    rw [if_neg h3] at h
    cases he : entryF ws 1 [] (initO w.1) with
    | error i => rw [he] at h; injection h with h; subst h; exact .inl rfl
    | ok o => rw [he] at h; cases h
theorem linesP_code (ps : List (Nat × List UInt8)) : ∀ {acc : List Off} {e : Int × Nat}, linesP ps acc = .error e → e.1 = 2 ∨ e.1 = 3 ∨ e.1 = 4 := by
  induction ps with
  | nil => intro acc e h; rw [linesP] at h; cases h
  | cons x ps ih =>
    intro acc e h
    rw [linesP] at h
    cases hl : lineP x.1 x.2 acc with
    | error e2 => rw [hl] at h; injection h with h; subst h; exact lineP_code hl
    | ok acc' => rw [hl] at h; exact ih h
end Go.Proofs.YtcjkamnpkmkapaaDoor
