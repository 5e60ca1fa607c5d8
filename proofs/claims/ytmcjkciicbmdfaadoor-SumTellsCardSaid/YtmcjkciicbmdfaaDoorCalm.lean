import Derived.Test.YtmcjkciicbmdfaaDoorSmall
namespace Go.Proofs.YtmcjkciicbmdfaaDoor
open Go.RowKit SumMath
section calm
variable {P : Program} {ops : Array Oper} {C : World → Prop} {Q : Exit → Act → World → Prop}
theorem wp_of_quiet {o : Oper} {a : Act} {w : World} {K : Act → Prop} {next : Act → World → Prop} (hw : C w) (h : o.quiet P a C K) (hK : ∀ a, K a → ∀ w, C w → next a w) : o.wp P a w next Q := by
  obtain ⟨v, h1, h2⟩ := h
  have hq := h1 w hw
  unfold Oper.quietAt at hq
  unfold Oper.wp
  revert hq
  cases (execOp a.eval o).run P w with
  | ok x w' =>
    cases x with
    | value u => rintro ⟨rfl, rfl⟩; exact hK _ h2 _ hw
    | skip => rintro ⟨rfl, rfl⟩; exact hK _ h2 _ hw
    | enter f args => rintro ⟨rfl, hc⟩; exact hc.mono fun e w'' ⟨he, hw''⟩ => by subst he; exact hK _ h2 _ hw''
    | _ => intro h; exact h.elim
  | halt h w' => intro h; exact h.elim
theorem wpList_of_quiet : ∀ (l : List Oper) (a : Act) (w : World), C w → wpQuiet P ops C (fun a' => ∀ w', C w' → Q .normal a' w') l a → wpList P ops Q l a w
  | [], a, w, hw, h => h w hw
  | o :: l, a, w, hw, h => by
    unfold wpQuiet at h
    unfold wpList
    split
    · rename_i hwant
      rw [if_pos hwant] at h
      exact .inl (wp_of_quiet hw h fun a ha w hw => wpList_of_quiet l a w hw ha)
    · rename_i hwant
      rw [if_neg hwant] at h
      exact wpList_of_quiet l _ w hw h
/-- a region in the order of the text, whose operations read and whose callees make memory alone -/
theorem wp_region_calm {id : Nat} {a : Act} {w : World} {l : List Oper}
    (h : wpQuiet P l.toArray (fun w' => ∃ p : Regrown, w' = Sort.grow (redrawn w p.d) p.os) (fun a' => ∀ w', (∃ p : Regrown, w' = Sort.grow (redrawn w p.d) p.os) → Q .normal a' w') l a) : (Code.region id l.toArray false).wp P Q a w :=
  wp_region_lit (wpList_of_quiet l a w ⟨⟨w.drawn, #[]⟩, by rw [Sort.grow_empty]; rfl⟩ h)
end calm
end Go.Proofs.YtmcjkciicbmdfaaDoor
