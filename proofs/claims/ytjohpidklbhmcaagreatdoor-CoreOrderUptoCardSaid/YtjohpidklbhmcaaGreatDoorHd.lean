/- Core -/
import Derived.Lib.Hide
import Derived.Deep.RegionHeld
import Derived.Laws.AppendOwn
namespace Go.Proofs.YtjohpidklbhmcaaGreatDoor
set_option linter.all false
open Go.RowKit
instance:Coe World Nat:=⟨λw=>w.heap.size⟩
instance {α:Type _}:CoeOut (List α) Nat:=⟨List.length⟩
instance:Coe Int Value:=⟨.int .i64⟩
instance:Coe ByteArray Value:=⟨.string⟩
instance:Coe Nat Value:=⟨λg=>.pointer (some ⟨g,0,none⟩)⟩
instance:Coe Nat Addr:=⟨λg=>⟨g,0,none⟩⟩
instance:Coe Unit Value:=⟨λ_=>.slice none 0 0⟩
instance:Coe Bool Value:=⟨.bool⟩
abbrev Vl:=Value
abbrev À:=World
abbrev Ê:=ByteArray
instance:Coe String Value:=⟨λ_=>.string ⟨#[]⟩⟩
instance:Coe Nat (Option Addr):=⟨λg=>some ⟨g,0,none⟩⟩
theorem Ω {p:Prop} (h:p:=by unfold only;omega):p:=h
theorem π {p:Prop} (h:p:=by decide):p:=h
theorem Δ {p:Prop} (h:p:=by kernel_rfl):p:=h
theorem Φ {p:Prop} (h:p:=by simp;omega):p:=h
theorem Γ {p:Prop} (h:p:=by decide +kernel):p:=h
theorem Ψ {p:Prop} (h:p:=by unfold i64;omega):p:=h
theorem Θ {p:Prop} (h:p:=by simp):p:=h
theorem ι {p:Prop} (h:p:=by assumption):p:=h
theorem Ξ {p:Prop} (h:p:=by unfold maxLen;omega):p:=h
theorem Λ {p:Prop} (h:p:=by first|exact bq _ _|exact smDr _ _):p:=h
theorem Υ {p:Prop} (h:p:=by first|rfl|trivial):p:=h
theorem Ρ {p:Prop} (h:p:=by simp[Value.oneCell']):p:=h
theorem ω {p:Prop} (h:p:=by omega):p:=h
theorem zd2 {p q:Prop} (a:p) (b:q):Hid p∧Hid q:=⟨a,b⟩
theorem zd3 {p q r:Prop} (a:p) (b:q) (c:r):Hid p∧Hid q∧Hid r:=⟨a,b,c⟩
theorem zd4 {p q r s:Prop} (a:p) (b:q) (c:r) (d:s):Hid p∧Hid q∧Hid r∧Hid s:=⟨a,b,c,d⟩
theorem zd5 {p q r s t:Prop} (a:p) (b:q) (c:r) (d:s) (e:t):Hid p∧Hid q∧Hid r∧Hid s∧Hid t:=⟨a,b,c,d,e⟩
theorem zd6 {p q r s t u:Prop} (a:p) (b:q) (c:r) (d:s) (e:t) (f:u):Hid p∧Hid q∧Hid r∧Hid s∧Hid t∧Hid u:=⟨a,b,c,d,e,f⟩
theorem zd7 {p q r s t u v:Prop} (a:p) (b:q) (c:r) (d:s) (e:t) (f:u) (g:v):Hid p∧Hid q∧Hid r∧Hid s∧Hid t∧Hid u∧Hid v:=⟨a,b,c,d,e,f,g⟩
theorem zd8 {p q r s t u v x:Prop} (a:p) (b:q) (c:r) (d:s) (e:t) (f:u) (g:v) (h:x):Hid p∧Hid q∧Hid r∧Hid s∧Hid t∧Hid u∧Hid v∧Hid x:=⟨a,b,c,d,e,f,g,h⟩
theorem γ {α:Sort _} (a:α):∃q,q=a:=⟨_,rfl⟩
theorem zT (a b:Nat) (h:a<b:=by omega):decide ((a:Int)<(b:Int))=true:=decide_eq_true (by omega)
theorem zF (a b:Nat) (h:¬a<b:=by omega):decide ((a:Int)<(b:Int))=false:=decide_eq_false (by omega)
theorem η {p:Prop} (h:p):Go.RowKit.Hid p:=Lib.hid h
def μ:=@List.length_append
def ν:=@List.getElem_mem
def ξ:=@List.getElem?_eq_getElem
instance:Coe (Array Value) Value:=⟨.agg⟩
theorem Qm {q p:Prop} (k:Hid q) (h:q->p:=by intro _;(try simp only[μ]);omega):p:=h k
def ρ:=@Nat.lt_of_lt_of_le
def τ:=Bool.and_eq_true
def υ:=Nat.le_refl
def χ:=@List.append_assoc
def ψ:=@Nat.le_trans
def δ:=@List.length_cons
def ε:=@List.drop_eq_nil_of_le
end Go.Proofs.YtjohpidklbhmcaaGreatDoor
theorem Go.RowKit.Hid.o {p:Prop} (h:Go.RowKit.Hid p):p:=h.out
theorem Go.Shut.o {p:Prop} (h:Go.Shut p):p:=h.out
theorem Go.World.grownBy.C {w w1:Go.World} {row:Option Nat} (h:w.grownBy w1 row) (R:Go.World) (K:Nat) (v:Go.Value) (h1:w.cell? ⟨R.heap.size,K,none⟩=some v:=by simp) (h2:some R.heap.size≠row:=by simp;omega):w1.cell? ⟨R.heap.size,K,none⟩=some v:=h.cell h1 h2
