import Derived.Lib.Hide
import Derived.Deep.RegionHeld
import Derived.Laws.AppendOwn
import Derived.Laws.Rows
namespace Go.Proofs.YtbmknjfgjphfbaaGreatDoor
open Go.RowKit
abbrev À:=World
abbrev Ê:=ByteArray
theorem η {p:Prop} (h:p):Go.RowKit.Hid p:=Lib.hid h
theorem Γ {p:Prop} (h:p:=by decide +kernel):p:=h
theorem Δ {p:Prop} (h:p:=by kernel_rfl):p:=h
theorem ω {p:Prop} (h:p:=by omega):p:=h
theorem π {p:Prop} (h:p:=by decide):p:=h
theorem γ {α:Sort _} (a:α):∃q,Hid (q=a):=⟨_,η rfl⟩
theorem δ {α:Sort _} (a:α):∃q,a=q:=⟨_,rfl⟩
theorem zd2 {p q:Prop} (a:p) (b:q):Hid p∧Hid q:=⟨η a,η b⟩
theorem zd3 {p q r:Prop} (a:p) (b:q) (c:r):Hid p∧Hid q∧Hid r:=⟨η a,η b,η c⟩
theorem zd4 {p q r s:Prop} (a:p) (b:q) (c:r) (d:s):Hid p∧Hid q∧Hid r∧Hid s:=⟨η a,η b,η c,η d⟩
theorem zd5 {p q r s t:Prop} (a:p) (b:q) (c:r) (d:s) (e:t):Hid p∧Hid q∧Hid r∧Hid s∧Hid t:=⟨η a,η b,η c,η d,η e⟩
theorem zd6 {p q r s t u:Prop} (a:p) (b:q) (c:r) (d:s) (e:t) (f:u):Hid p∧Hid q∧Hid r∧Hid s∧Hid t∧Hid u:=⟨η a,η b,η c,η d,η e,η f⟩
theorem dw5 (d:Nat) (h:d<9999):Hid (IntKind.i64.wrap ((d:Int)+1)=((d+1:Nat):Int))∧Hid (wrap64 ((d:Int)+1)=((d+1:Nat):Int))∧Hid ((d:Int)+1=((d+1:Nat):Int)):=
 ⟨η (by rw[IntKind.wrap_i64];omega),η (by unfold wrap64;omega),η (by omega)⟩
end Go.Proofs.YtbmknjfgjphfbaaGreatDoor
theorem Go.RowKit.Hid.o {p:Prop} (h:Go.RowKit.Hid p):p:=h.out
