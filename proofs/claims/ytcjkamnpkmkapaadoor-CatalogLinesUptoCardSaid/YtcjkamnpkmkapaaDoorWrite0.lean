import Derived.Test.YtcjkamnpkmkapaaDoorBuild
import Derived.Test.YtcjkamnpkmkapaaDoorRight0
import Derived.Test.YtcjkamnpkmkapaaDoorFind
import Derived.Deep.RegionHeld3
namespace Go.Proofs.YtcjkamnpkmkapaaDoor
open Go.RowKit
theorem dec_len (u : Nat) : ∀ k, 0 < k → u < 10 ^ k → (Lib.decDigits u).length ≤ k := by
  induction u using Nat.strongRecOn with
  | _ u ih =>
    intro k hk hu
    rw [Lib.decDigits]
    split
    · simp; omega
    · rename_i h
      match k, hk with
      | 1, _ => omega
      | k + 2, _ =>
        have := ih (u / 10) (by omega) (k + 1) (by omega) (by rw [Nat.pow_succ] at hu; omega)
        simp; omega
theorem itoa_len (n : Int) (h0 : 0 ≤ n) (h1 : n ≤ 1073741824) : (Lib.itoa n).length ≤ 10 := by
  unfold Lib.itoa
  rw [if_neg (by omega)]
  exact dec_len _ 10 (by decide) (by omega)
theorem costT_len (n : Int) (h : costB n = true) : (costT n).length ≤ 10 := by
  simp [costB] at h
  unfold costT
  split
  · simp
  · exact itoa_len n (by omega) (by omega)
theorem bld_keep {B b : Nat} {bs : List Value} {w w' : World} (h : Lib.IsBuilder 54 5 B b bs w) (hb : Below w.heap.size w w') : Lib.IsBuilder 54 5 B b bs w' := by
  have one : ∀ p, Lib.BuilderAt 54 5 B b p bs w → Lib.BuilderAt 54 5 B b p bs w' := by
    rintro p ⟨hB, v, hbk, hown, hne⟩
    refine ⟨hB, v, (hb.block b (Array.getElem?_eq_some_iff.1 hbk).1).trans hbk, ⟨hown.1, ?_⟩, hne⟩
    rcases hown.2 with hn | ⟨g, cap, cur, rfl, hbg, hgg, rest⟩
    · exact .inl hn
    · exact .inr ⟨g, cap, cur, rfl, hbg, (hb.block g (Array.getElem?_eq_some_iff.1 hgg).1).trans hgg, rest⟩
  rcases h with h | h
  · exact .inl (one _ h)
  · exact .inr (one _ h)
theorem bld_grown {B b m : Nat} {bs : List Value} {w w' : World} {n : Nat} {f : List UInt8 → Option Value} (h : Lib.IsBuilder 54 5 B b bs w) (hm : MapIs Tryd.prog 9 w m n f) (hg : w.grownBy w' (some m)) : Lib.IsBuilder 54 5 B b bs w' := by
  have one : ∀ p, Lib.BuilderAt 54 5 B b p bs w → Lib.BuilderAt 54 5 B b p bs w' := by
    rintro p ⟨hB, v, hbk, hown, hne⟩
    have hbm : b ≠ m := by
      rintro rfl
      obtain ⟨D, ⟨es, clock, hb, _⟩, _⟩ := hm
      rw [hbk] at hb; cases hb
    exact ⟨hB, v, (hg.block b (Array.getElem?_eq_some_iff.1 hbk).1 (by simpa using hbm)).trans hbk, hown.kept hg (.inr (row_map_ne hown hm)), hne⟩
  rcases h with h | h
  · exact .inl (one _ h)
  · exact .inr (one _ h)
/-- what the loop of Write keeps -/
structure WSt (w wr : World) (out : List UInt8) (l : List Off) : Prop where
  bel : Below w.heap.size w wr
  bld : Lib.IsBuilder 54 5 w.heap.size w.heap.size (Lib.byteCells out) wr
  map : ∃ n, n ≤ l.length ∧ MapIs Tryd.prog 9 wr (w.heap.size + 1) n (nameF l)
theorem WSt.below {w wr w1 : World} {out : List UInt8} {l : List Off} (h : WSt w wr out l) (hb : Below wr.heap.size wr w1) : WSt w w1 out l := by
  obtain ⟨n, hn, hm⟩ := h.map
  exact ⟨h.bel.trans (hb.mono h.bel.size), bld_keep h.bld hb, n, hn, hm.below hb hm.lt⟩
theorem WSt.put {w w1 w2 : World} {out : List UInt8} {l : List Off} {o : Off} (h : WSt w w1 out l) {n : Nat} (hn : n ≤ l.length) (h1 : MapIs Tryd.prog 9 w1 (w.heap.size + 1) n (nameF l)) (hg : w1.grownBy w2 (some (w.heap.size + 1))) (hm : MapIs Tryd.prog 9 w2 (w.heap.size + 1) (if (nameF l o.name.data.toList).isSome then n else n + 1) (upd (nameF l) o.name.data.toList (some (.bool true)))) : WSt w w2 out (l ++ [o]) :=
  ⟨below_grown h.bel hg h.bel.size (by omega), bld_grown h.bld h1 hg, _, by rw [List.length_append, List.length_singleton]; split <;> omega, hm.congr fun k => nameF_snoc l o k⟩
theorem WSt.wrote {w w1 w2 : World} {out more : List UInt8} {l : List Off} (h : WSt w w1 out l) (hb : Lib.IsBuilder 54 5 w.heap.size w.heap.size (Lib.byteCells (out ++ more)) w2) (hbel : Below w.heap.size w1 w2) (hk : Lib.OthersKept 5 (some w.heap.size) w1 w2) : WSt w w2 (out ++ more) l := by
  obtain ⟨n, hn, D, ⟨es, clock, hbk, r1⟩, r2⟩ := h.map
  refine ⟨h.bel.trans hbel, hb, n, hn, D, ⟨es, clock, ?_, r1⟩, r2⟩
  exact hk _ _ hbk (by simp) (fun c fz e => by cases e)
theorem hs_others {w1 w2 : World} {b g : Nat} {cs : Array Value} (h : Hs w1 g 32 cs) (hk : Lib.OthersKept 5 (some b) w1 w2) (hne : g ≠ b) : Hs w2 g 32 cs :=
  hk _ _ h (by simpa using hne) (fun c fz e => by cases e)
theorem showCost_from (w3 : World) (n : Int) (W : World) (hn : costB n = true) (hb : Below w3.heap.size w3 W) (ht : Tab w3) :
    Calls Tryd.prog 16 #[.int .i64 n] W fun e w' => e = .returned (.string (str (costT n))) ∧ Below w3.heap.size w3 w' := by
  have : -1 ≤ n ∧ n ≤ 1048576 := by simpa [costB] using hn
  exact (showCost_any n (by omega) (by omega) W (ht.keep hb)).mono fun e w' ⟨h1, h2⟩ => ⟨h1, hb.trans (h2.mono hb.size)⟩
theorem text_from (w3 : World) (n : Int) (W : World) (h0 : 0 ≤ n) (h1 : n ≤ 1073741824) (hb : Below w3.heap.size w3 W) (ht : Tab w3) :
    Calls Tryd.prog 17 #[.int .i64 n] W fun e w' => e = .returned (.string (str (Lib.itoa n))) ∧ Below w3.heap.size w3 w' :=
  (text_any n (by omega) (by omega) W (ht.keep hb)).mono fun e w' ⟨h1, h2⟩ => ⟨h1, hb.trans (h2.mono hb.size)⟩
theorem write_from (w w3 : World) (out : List UInt8) (l : List Off) (s : ByteArray) (W : World) (h : WSt w w3 out l) (hb : Below w3.heap.size w3 W) (hs : out.length + s.size ≤ 140737488355328) :
    Calls Tryd.prog 15 #[.pointer (some ⟨w.heap.size, 0, none⟩), .string s] W fun e w' => e = .returned (.tuple #[.int .i64 s.size, .nilIface]) ∧ WSt w w' (out ++ s.data.toList) l ∧ Lib.OthersKept 5 (some w.heap.size) W w' := by
  have h2 := h.below hb
  exact (writeString_any w.heap.size w.heap.size out s W h2.bld hs h2.bel.size).mono fun e w' ⟨e1, e2, e3, e4⟩ => ⟨e1, h2.wrote e2 e3 e4, e4⟩
theorem writeF_step (l : List Off) (k : Nat) (h : k < l.length) (out : List UInt8) (hr : rightB l[k] = true) (hn : l[k].name.data.toList ∉ nmL (l.take k)) :
    (writeF (l.drop k) (nmL (l.take k))).map (out ++ ·) = (writeF (l.drop (k + 1)) (nmL (l.take (k + 1)))).map ((out ++ lineW l[k]) ++ ·) := by
  rw [List.drop_eq_getElem_cons h, writeF, if_neg (fun a => a.elim (fun b => by rw [hr] at b; cases b) hn), List.take_succ_eq_append_getElem h]
  unfold nmL
  rw [List.map_append]
  simp only [List.map_cons, List.map_nil]
  cases writeF (l.drop (k + 1)) (List.map (fun o => o.name.data.toList) (l.take k) ++ [l[k].name.data.toList]) with
  | none => rfl
  | some x => simp [List.append_assoc]
theorem writeF_bad (l : List Off) (k : Nat) (h : k < l.length) (out : List UInt8) (hr : rightB l[k] = false ∨ l[k].name.data.toList ∈ nmL (l.take k)) :
    (writeF (l.drop k) (nmL (l.take k))).map (out ++ ·) = none := by
  rw [List.drop_eq_getElem_cons h, writeF, if_pos hr]; rfl
end Go.Proofs.YtcjkamnpkmkapaaDoor
