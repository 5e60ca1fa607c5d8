import Derived.Test.YtcjkamnpkmkapaaDoorParse
import Derived.Test.YtcjkamnpkmkapaaDoorWrite
import Derived.Test.YtcjkamnpkmkapaaDoorRight
import Derived.Test.YtcjkamnpkmkapaaDoorSame
import Derived.Lib.QuietBelow
namespace Go.Proofs.YtcjkamnpkmkapaaDoor
open Go.RowKit
def oPay : Off := ⟨⟨#[112, 97, 121]⟩, 1, 2, 50, -1, -1⟩
def oMail : Off := ⟨⟨#[109, 97, 105, 108]⟩, -1, -1, 0, 5, -1⟩
theorem parse_k0 : parseP [112, 97, 121, 32, 100, 111, 32, 49, 32, 117, 110, 100, 111, 32, 50, 32, 100, 117, 101, 32, 53, 48, 32, 35, 32, 120, 10, 10, 32, 109, 97, 105, 108, 9, 112, 97, 114, 116, 32, 53, 32, 100, 111, 32, 45, 13, 10] = .ok [oPay, oMail] := by kernel_rfl
theorem parse_c0 (w : World) : Calls Tryd.prog 9 #[.string ⟨#[112, 97, 121, 32, 100, 111, 32, 49, 32, 117, 110, 100, 111, 32, 50, 32, 100, 117, 101, 32, 53, 48, 32, 35, 32, 120, 10, 10, 32, 109, 97, 105, 108, 9, 112, 97, 114, 116, 32, 53, 32, 100, 111, 32, 45, 13, 10]⟩] w fun e w' => ∃ v, e = .returned (.tuple #[v, .int .i64 0, .int .i64 0]) ∧ w'.ownsRow w.heap.size 32 6 v 2 (ocells [oPay, oMail]) ∧ Below w.heap.size w w' :=
  (parse_any ⟨#[112, 97, 121, 32, 100, 111, 32, 49, 32, 117, 110, 100, 111, 32, 50, 32, 100, 117, 101, 32, 53, 48, 32, 35, 32, 120, 10, 10, 32, 109, 97, 105, 108, 9, 112, 97, 114, 116, 32, 53, 32, 100, 111, 32, 45, 13, 10]⟩ w (by decide)).mono fun e w' h => by
    have h2 : ParseRet w (parseP [112, 97, 121, 32, 100, 111, 32, 49, 32, 117, 110, 100, 111, 32, 50, 32, 100, 117, 101, 32, 53, 48, 32, 35, 32, 120, 10, 10, 32, 109, 97, 105, 108, 9, 112, 97, 114, 116, 32, 53, 32, 100, 111, 32, 45, 13, 10]) e w' := h
    rw [parse_k0] at h2
    exact h2
theorem parse_k1 : parseP [112, 97, 121, 10, 112, 97, 121] = .error (4, 4) := by kernel_rfl
theorem parse_c1 (w : World) : Calls Tryd.prog 9 #[.string ⟨#[112, 97, 121, 10, 112, 97, 121]⟩] w fun e w' => ∃ v, e = .returned (.tuple #[v, .int .i64 4, .int .i64 4]) ∧ Below w.heap.size w w' :=
  (parse_any ⟨#[112, 97, 121, 10, 112, 97, 121]⟩ w (by decide)).mono fun e w' h => by
    have h2 : ParseRet w (parseP [112, 97, 121, 10, 112, 97, 121]) e w' := h
    rw [parse_k1] at h2
    obtain ⟨v, h3, _, h4⟩ := h2
    exact ⟨v, h3, h4⟩
theorem parse_k2 : parseP [112, 97, 121, 32, 100, 111, 32, 49, 32, 100, 111, 32, 50] = .error (2, 9) := by kernel_rfl
theorem parse_c2 (w : World) : Calls Tryd.prog 9 #[.string ⟨#[112, 97, 121, 32, 100, 111, 32, 49, 32, 100, 111, 32, 50]⟩] w fun e w' => ∃ v, e = .returned (.tuple #[v, .int .i64 2, .int .i64 9]) ∧ Below w.heap.size w w' :=
  (parse_any ⟨#[112, 97, 121, 32, 100, 111, 32, 49, 32, 100, 111, 32, 50]⟩ w (by decide)).mono fun e w' h => by
    have h2 : ParseRet w (parseP [112, 97, 121, 32, 100, 111, 32, 49, 32, 100, 111, 32, 50]) e w' := h
    rw [parse_k2] at h2
    obtain ⟨v, h3, _, h4⟩ := h2
    exact ⟨v, h3, h4⟩
theorem parse_k3 : parseP [97, 32, 100, 111] = .error (2, 2) := by kernel_rfl
theorem parse_c3 (w : World) : Calls Tryd.prog 9 #[.string ⟨#[97, 32, 100, 111]⟩] w fun e w' => ∃ v, e = .returned (.tuple #[v, .int .i64 2, .int .i64 2]) ∧ Below w.heap.size w w' :=
  (parse_any ⟨#[97, 32, 100, 111]⟩ w (by decide)).mono fun e w' h => by
    have h2 : ParseRet w (parseP [97, 32, 100, 111]) e w' := h
    rw [parse_k3] at h2
    obtain ⟨v, h3, _, h4⟩ := h2
    exact ⟨v, h3, h4⟩
def payText : ByteArray := ⟨#[112, 97, 121, 32, 100, 111, 32, 49, 32, 117, 110, 100, 111, 32, 50, 32, 100, 117, 101, 32, 53, 48, 32, 112, 97, 114, 116, 32, 45, 32, 97, 109, 101, 110, 100, 32, 45, 10]⟩
theorem itoa_small1 : Lib.itoa 1 = [49] := by rw [Lib.itoa, if_neg (by decide), Lib.decDigits, dif_pos (by decide)]; rfl
theorem itoa_small2 : Lib.itoa 2 = [50] := by rw [Lib.itoa, if_neg (by decide), Lib.decDigits, dif_pos (by decide)]; rfl
theorem itoa_small50 : Lib.itoa 50 = [53, 48] := by rw [Lib.itoa, if_neg (by decide), Lib.decDigits, dif_neg (by decide), Lib.decDigits, dif_pos (by decide)]; rfl
theorem write_k : writeP [oPay] = [112, 97, 121, 32, 100, 111, 32, 49, 32, 117, 110, 100, 111, 32, 50, 32, 100, 117, 101, 32, 53, 48, 32, 112, 97, 114, 116, 32, 45, 32, 97, 109, 101, 110, 100, 32, 45, 10] := by
  have h1 : rightB oPay = true := by decide +kernel
  have h2 : lineW oPay = [112, 97, 121, 32, 100, 111, 32, 49, 32, 117, 110, 100, 111, 32, 50, 32, 100, 117, 101, 32, 53, 48, 32, 112, 97, 114, 116, 32, 45, 32, 97, 109, 101, 110, 100, 32, 45, 10] := by
    unfold lineW costT oPay
    simp only [itoa_small1, itoa_small2, itoa_small50]; rfl
  unfold writeP
  rw [if_neg (by decide), writeF, if_neg (fun a => a.elim (fun b => by rw [h1] at b; cases b) (by simp)), writeF, h2]; rfl
theorem write_c (v : Value) (w : World) (hv : OReads w w.heap.size v [oPay]) (ht : Tab w) : Calls Tryd.prog 8 #[v] w fun e w' => e = .returned (.string payText) ∧ Below w.heap.size w w' :=
  (write_any v [oPay] w hv (by decide) ht).mono fun e w' h => by
    have h2 : WriteRet w (writeP [oPay]) e w' := h
    rw [write_k] at h2
    exact h2
theorem find_c (v : Value) (w : World) (hv : OReads w w.heap.size v [oPay, oMail]) : Calls Tryd.prog 11 #[v, .string ⟨#[109, 97, 105, 108]⟩] w fun e w' => e = .returned (.tuple #[.agg #[.string ⟨#[109, 97, 105, 108]⟩, .int .i64 (-1), .int .i64 (-1), .int .i64 0, .int .i64 5, .int .i64 (-1)], .bool true]) ∧ Below w.heap.size w w' :=
  (find_any v [oPay, oMail] ⟨#[109, 97, 105, 108]⟩ w hv (by decide)).mono fun e w' h => by
    have h2 : FindRet w (findP [oPay, oMail] [109, 97, 105, 108]) e w' := h
    rw [show findP [oPay, oMail] [109, 97, 105, 108] = some oMail by kernel_rfl] at h2
    exact h2
def eMail : List UInt8 := [109, 97, 105, 108]
def ePay : List UInt8 := [112, 97, 121]
theorem right_c2 (v : Value) (g : Nat) (w : World) (hv : OReads w w.heap.size v [oPay, oMail]) (hg : g < w.heap.size) (he : EReads w g [eMail, ePay]) :
    Calls Tryd.prog 13 #[v, .agg #[.slice none 0 0, .slice (some ⟨g, 0, none⟩) 2 2, .slice none 0 0, .slice none 0 0]] w fun e w' => e = .returned (.bool true) ∧ Below w.heap.size w w' :=
  (rightAll_any v [oPay, oMail] g 2 [eMail, ePay] w hv (by decide) hg he (by decide) (by decide) (by decide)).mono fun e w' ⟨h1, h2⟩ => ⟨h1.trans (by rw [show rightP [oPay, oMail] [eMail, ePay] = true by decide +kernel]), h2⟩
theorem right_c1 (v : Value) (g : Nat) (w : World) (hv : OReads w w.heap.size v [oPay, oMail]) (hg : g < w.heap.size) (he : EReads w g [eMail]) :
    Calls Tryd.prog 13 #[v, .agg #[.slice none 0 0, .slice (some ⟨g, 0, none⟩) 1 1, .slice none 0 0, .slice none 0 0]] w fun e w' => e = .returned (.bool false) ∧ Below w.heap.size w w' :=
  (rightAll_any v [oPay, oMail] g 1 [eMail] w hv (by decide) hg he (by decide) (by decide) (by decide)).mono fun e w' ⟨h1, h2⟩ => ⟨h1.trans (by rw [show rightP [oPay, oMail] [eMail] = false by decide +kernel]), h2⟩
theorem can_lit (o : Off) (tick clock : Int) (w : World) : Calls Tryd.prog 12 #[.agg #[.string o.name, .int .i64 o.do_, .int .i64 o.undo, .int .i64 o.due, .int .i64 o.part, .int .i64 o.amend], .int .i64 tick, .int .i64 clock] w fun e w' => e = .returned (.bool (canZ o tick clock)) ∧ Below w.heap.size w w' := can_any o tick clock w
theorem can_c1 (w : World) : Calls Tryd.prog 12 #[.agg #[.string ⟨#[112, 97, 121]⟩, .int .i64 1, .int .i64 2, .int .i64 50, .int .i64 (-1), .int .i64 (-1)], .int .i64 5, .int .i64 55] w fun e w' => e = .returned (.bool true) ∧ Below w.heap.size w w' := can_any oPay 5 55 w
theorem can_c2 (w : World) : Calls Tryd.prog 12 #[.agg #[.string ⟨#[112, 97, 121]⟩, .int .i64 1, .int .i64 2, .int .i64 50, .int .i64 (-1), .int .i64 (-1)], .int .i64 5, .int .i64 56] w fun e w' => e = .returned (.bool false) ∧ Below w.heap.size w w' := can_any oPay 5 56 w
theorem can_c3 (w : World) : Calls Tryd.prog 12 #[.agg #[.string ⟨#[109, 97, 105, 108]⟩, .int .i64 (-1), .int .i64 (-1), .int .i64 0, .int .i64 5, .int .i64 (-1)], .int .i64 0, .int .i64 0] w fun e w' => e = .returned (.bool false) ∧ Below w.heap.size w w' := can_any oMail 0 0 w
end Go.Proofs.YtcjkamnpkmkapaaDoor
