/- The law's 'small' (datakitlaw38.small): if it says yes, no node has more arguments than 65536. -/
import Derived.Test.YtiefeajappjnbaaGreatDoorHO
import Derived.Test.YtiefeajappjnbaaGreatDoorGA
import Derived.Test.YtiefeajappjnbaaGreatDoorGI
import Derived.Test.YtiefeajappjnbaaGreatDoorGB
namespace Go.Proofs.YtiefeajappjnbaaGreatDoor
open Go.RowKit
end Go.Proofs.YtiefeajappjnbaaGreatDoor

/- The law's 'few' (datakitlaw38.few): of one expression, it returns, and writes nothing that was there. -/
namespace Go.Proofs.YtiefeajappjnbaaGreatDoor
open Go.RowKit
theorem ax {P:Program} {ops:Array Oper} {rest:List Oper} {op:Oper} {a:Act} {w:World} {Q:Exit→Act→World→Prop} (hw:Region.wanted op (yielded ops a.tmps)=true) (ty:TypeId) (x:Operand) (ho:op.op=.load ty x)
 (b o:Nat) (hx:a.eval x=.pointer (some ⟨b,o,none⟩)) (cs:List Value) (d:TypeDesc) (hc:w.rangeAt b o cs)
 (hu:P.underlying ty=some d) (hd:d.isRow=true) (hi:(P.info? ty).map (·.size)=some cs.length)
 (h:wpList P ops Q rest (a.put op.dst (.agg cs.toArray)) w):wpList P ops Q (op::rest) a w :=
 wpList_step fun K hK=>by rw [if_pos hw];exact wp_load_mid ty x ho b o hx cs d hc hu hd hi (hK _ _ h)
theorem gR (w:World) (B N:Nat):ar.At w B N (.mk 0 false ⟨false,⟨#[]⟩,0⟩ ⟨0,0,0,0⟩ ⟨#[]⟩ [] [] []) [.int .i64 0,.bool false,.bool false,.string ⟨#[]⟩,.int .i64 0,.int .i64 0,.int .i64 0,.int .i64 0,.int .i64 0,.string ⟨#[]⟩,.slice none 0 0,.slice none 0 0,.slice none 0 0]:=by
 refine ⟨none,none,none,0,0,0,rfl,?_,.inl rfl,trivial,trivial⟩
 simp [ar.Own,ar.kind,ar.num,ar.time,ar.text,ar.bytes,ar.list,ar.fields,I64,ByteArray.size]
end Go.Proofs.YtiefeajappjnbaaGreatDoor
