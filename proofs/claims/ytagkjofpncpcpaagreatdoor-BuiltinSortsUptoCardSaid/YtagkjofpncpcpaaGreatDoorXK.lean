/- builtin.whole, datakitref37.At, value.Copy, value.Field, datakitref07.Field: what they give. -/
import Derived.Test.YtagkjofpncpcpaaGreatDoorProg
import Derived.Test.YtagkjofpncpcpaaGreatDoorGA
import Derived.Test.YtagkjofpncpcpaaGreatDoorGB
import Derived.Test.YtagkjofpncpcpaaGreatDoorGC
import Derived.Test.YtagkjofpncpcpaaGreatDoorGD
import Derived.Test.YtagkjofpncpcpaaGreatDoorGF
import Derived.Test.YtagkjofpncpcpaaGreatDoorXA
import Derived.StillTailTactics
import Derived.Deep.DeepCutAuto
import Derived.Great.BuildSlice
import Derived.Sort.Walk0
import Derived.Deep.DeepMust
namespace Go.Proofs.YtagkjofpncpcpaaGreatDoor
open Go.RowKit
theorem results_cell_row2 {P:Program} {fn:Func} {p u:Tmp} {ty:TypeId} (h:fn.results=#[.cell p ty,.tmp u]) (tmps:Array Value) (w:World) (g:Nat) (t:TypeId) (cs:Array Value) (fr:Nat×Nat) (d:TypeDesc)
 (hp:tmps.getD p undef=.pointer (some ⟨g,0,none⟩)) (hg:w.heap[g]?=some (.cells cs t fr))
 (hu:P.underlying ty=some d) (hd:(match d with | .struct _ | .array _ _=>true | _=>false)=true) (hi:(P.info? ty).map (·.size)=some cs.size) :
 (results fn tmps).run P w=.ok (.tuple #[.agg cs,tmps.getD u undef]) w:=by
 have hp':tmps[p]?.getD undef=.pointer (some ⟨g,0,none⟩):=by simpa using hp
 simp [results,h,hp',asAddr,run_loadVar_row w g t ty cs fr d hg hu hd hi]
end Go.Proofs.YtagkjofpncpcpaaGreatDoor

/- value.Copy, value.Field, datakitref07.Field: what they give. -/
namespace Go.Proofs.YtagkjofpncpcpaaGreatDoor
open Go.RowKit
def zeroD:ValD:=.mk 0 false ⟨false,⟨#[]⟩,0⟩ ⟨0,0,0,0⟩ ⟨#[]⟩ [] [] []
theorem i64_0:I64 0:=⟨by omega,by omega⟩
theorem zeroD_at (w:World) (B N:Nat):ValD.At w B N zeroD zeroV.toList :=
 ⟨none,none,none,0,0,0,rfl,⟨i64_0,i64_0,i64_0,i64_0,i64_0,i64_0,Nat.zero_le _,Nat.zero_le _,Nat.zero_le _,Nat.zero_le _,Nat.zero_le _⟩,.inl rfl,trivial,trivial⟩
theorem sizeZ:(Tryz.prog.info? 30).map (·.size)=some zeroV.size:=sizeV
theorem oneZ:zeroV.all (·.oneCell')=true:=by kernel_rfl
theorem row_size {cs:List Value} (h:cs.length=13):(Tryz.prog.info? 30).map (·.size)=some cs.toArray.size:=by rw [List.size_toArray,h];exact sizeV
theorem row_zero {cs:List Value} (h:cs.length=13):zeroV.toList.toArray.size=cs.toArray.size:=by rw [List.size_toArray,List.size_toArray,h];rfl
theorem row_ones {w:World} {B N:Nat} {v:ValD} {cs:List Value} (h:ValD.At w B N v cs):cs.toArray.all (·.oneCell')=true:=Go.all_oneCell_toArray h.oneCell
theorem keep_setRow (w:World) (g L:Nat) (cs:Array Value) (hg:g<L):Keep L none w (w.setRow g cs):=⟨by simp,fun q h1 _ _=>setRow_other _ _ _ _ (by omega)⟩
theorem new_row (w:World) (o:Obj) (cs:List Value):RowAt ((w.alloc o).alloc (.cells cs.toArray 30)) (w.heap.size+1) cs:=by
 have:=heap_alloc_new (w.alloc o) (.cells cs.toArray 30)
 rw [World.size_alloc] at this
 exact this
set_option maxRecDepth 100000 in
set_option maxHeartbeats 1600000 in
theorem copy_ex (n:Nat) (v:ValD) (w:World) (B N:Nat) (cs:List Value) (hn:n≤65536) (hf:fitsV n v) (hN:N≤4294967296) (hB:B≤w.heap.size) (hv:ValD.At w B N v cs) :
 Calls Tryz.prog 46 #[.agg cs.toArray] w (CopR N v w):=by
 have HV:=Hd hv
 have HF:=Hd hf
 have hl:=Hd (show (Tryz.prog.info? 30).map (·.size)=some cs.length by rw [hv.len];exact sizeV)
 have H0:=Hd (show Below w.heap.size w ((w.alloc (.cells cs.toArray 30)).alloc (.cells zeroV 30)) from belowThen (belowBox w _) (belowBox _ _))
 have R0:=Hd (show CellsAt ((w.alloc (.cells cs.toArray 30)).alloc (.cells zeroV 30)) w.heap.size 0 cs from (box_at w cs 30).then (belowBox _ _) (by rw [World.size_alloc];omega))
 have Q0:=Hd (show RowAt ((w.alloc (.cells cs.toArray 30)).alloc (.cells zeroV 30)) (w.heap.size+1) zeroV.toList from new_row w _ zeroV.toList)
 have hsz:((w.alloc (.cells cs.toArray 30)).alloc (.cells zeroV 30)).heap.size=w.heap.size+2:=by rw [World.size_alloc,World.size_alloc]
 have HSZ:=Hd hsz
 clear hv hf hsz
 go_enter Tryz.func46,Tryz.ntmps46
 go_wp2_with (refine wpList_load_mid rfl 30 _ rfl w.heap.size 0 rfl cs _ R0.out.range Tryz.underlying30 rfl hl.out ?_)
 refine (copied_ex n v _ B N cs 65536 (by omega) (by omega) HF.out hN (Nat.le_trans hB H0.out.size) (HV.out.below (H0.out.mono hB))).mono ?_
 rintro e w1 ⟨cs2,rfl,hsafe,hb⟩
 have hs1:w.heap.size+2≤w1.heap.size:=by have:=hb.size;rw [HSZ.out] at this;exact this
 have Q1:=Hd (Q0.out.below hb (by rw [HSZ.out];omega))
 have H1:=Hd (belowThen H0.out hb)
 have S1:=Hd (show Safe (w.heap.size+2) none w1 (fun c=>ValD.At c c.heap.size N v cs2) by rw [← HSZ.out];exact hsafe)
 have A1:=Hd hsafe.here
 have hlen:=hsafe.here.len
 clear hsafe hb
 go_wp2_with (refine wpList_store_row rfl 30 _ _ rfl (w.heap.size+1) cs2.toArray rfl rfl 30 zeroV Q1.out (row_size hlen) (row_zero hlen) (row_ones A1.out) ?_)
 refine bodyPost_ret (results_cell_row rfl _ _ (w.heap.size+1) 30 _ (0,0) _ rfl (setRow_heap _ _ _ _ _ _ Q1.out) Tryz.underlying30 rfl (row_size hlen)) rfl ?_
 exact ⟨cs2,rfl,(S1.out.next (keep_setRow w1 (w.heap.size+1) (w.heap.size+2) _ (by omega)) (fun q _ h=>by cases h)).wide (by omega),below_setRow H1.out (by omega) _⟩
structure Apart (B L:Nat) (w c:World):Prop where
 os:c.os=w.os
 tape:c.tape=w.tape
 output:c.output=w.output
 size:w.heap.size≤c.heap.size
 block:∀ q,q<w.heap.size→q<B∨L≤q→c.heap[q]?=w.heap[q]?
theorem Apart.below {B L:Nat} {w c:World} (h:Apart B L w c) (hB:B≤w.heap.size):Below B w c:=⟨h.os,h.tape,h.output,h.size,fun q hq=>h.block q (by omega) (.inl hq)⟩
theorem Apart.keep {B L:Nat} {w c:World} (h:Apart B L w c):Keep L none w c:=⟨h.size,fun q h1 h2 _=>h.block q h2 (.inr h1)⟩
theorem Apart.of_setRow0 {B L g:Nat} {w:World} (cs:Array Value) (h1:B≤g) (h2:g<L):Apart B L w (w.setRow g cs):=by
 refine ⟨rfl,rfl,rfl,by simp,fun q hq hor=>?_⟩
 rw [setRow_other _ _ _ _ (by omega)]
def Solid (B L:Nat) (w:World) (T:World→Prop):Prop:=∀ c,Apart B L w c→T c
theorem Solid.here {B L:Nat} {w:World} {T:World→Prop} (h:Solid B L w T):T w:=h w ⟨rfl,rfl,rfl,Nat.le_refl _,fun _ _ _=>rfl⟩
end Go.Proofs.YtagkjofpncpcpaaGreatDoor

/- The reference's validity of values: what it means that it finds nothing wrong: the number is valid, and only lists have elements. -/
namespace Go.Proofs.YtagkjofpncpcpaaGreatDoor
open Go.RowKit
end Go.Proofs.YtagkjofpncpcpaaGreatDoor

/- builtin.Index: what it gives. -/
namespace Go.Proofs.YtagkjofpncpcpaaGreatDoor
open Go.RowKit
structure Three (w W:World) (cs ds:List Value):Prop where
 below:Below w.heap.size w W
 one:CellsAt W w.heap.size 0 cs
 two:CellsAt W (w.heap.size+1) 0 ds
 out:RowAt W (w.heap.size+1+1) zeroV.toList
 size:w.heap.size+3≤W.heap.size
theorem Three.later {w W W':World} {cs ds:List Value} (h:Three w W cs ds) (hb:Below W.heap.size W W'):Three w W' cs ds :=
 ⟨belowThen h.below hb,h.one.below hb (by have:=h.size;omega),h.two.below hb (by have:=h.size;omega),h.out.below hb (by have:=h.size;omega),Nat.le_trans h.size hb.size⟩
end Go.Proofs.YtagkjofpncpcpaaGreatDoor

/- datakitref37.Index: what it gives: the same as builtin.Index. -/
namespace Go.Proofs.YtagkjofpncpcpaaGreatDoor
open Go.RowKit
end Go.Proofs.YtagkjofpncpcpaaGreatDoor

/- A value as a result (datakitref37.result): the value, or the error why it is none. -/
namespace Go.Proofs.YtagkjofpncpcpaaGreatDoor
open Go.RowKit
def resD (v:ValD):ValD×Int:=if chkD v=0 then (v,0) else (zeroD,chkD v)
def ResR (B N:Nat) (r:ValD×Int) (w:World) (e:Ending) (w':World):Prop:=∃ (cs:List Value),e=.returned (.tuple #[.agg cs.toArray,.int .i64 r.2])∧Solid B w.heap.size w' (fun c=>ValD.At c c.heap.size N r.1 cs)∧Below w.heap.size w w'
theorem res_zero {B N:Nat} {w w1:World} {g:Nat} {k:Int} {r:ValD×Int} (hr:r=(zeroD,k)) (hg:w.heap.size≤g) (hb:Below w.heap.size w w1):ResR B N r w (.returned (.tuple #[.agg zeroV,.int .i64 k])) (w1.setRow g zeroV):=by
 rw [hr]
 exact ⟨zeroV.toList,rfl,fun _ _=>zeroD_at _ _ _,below_setRow hb hg _⟩
end Go.Proofs.YtagkjofpncpcpaaGreatDoor
/- A value as a result (builtin.valid): a copy of the value,or the error why it is none. -/
namespace Go.Proofs.YtagkjofpncpcpaaGreatDoor
open Go.RowKit
end Go.Proofs.YtagkjofpncpcpaaGreatDoor
/- A list as a result (datakitref37.list,builtin.list). -/
namespace Go.Proofs.YtagkjofpncpcpaaGreatDoor
open Go.RowKit
def lisD (l:List ValD):ValD:=.mk 6 false ⟨false,⟨#[]⟩,0⟩ ⟨0,0,0,0⟩ ⟨#[]⟩ [] l []
def lisR (l:List ValD) (a:Option Addr) (c:Nat):List Value:=[.int .i64 6,.bool false,.bool false,.string ⟨#[]⟩,.int .i64 0,.int .i64 0,.int .i64 0,.int .i64 0,.int .i64 0,.string ⟨#[]⟩,.slice none 0 0,.slice a l.length c,.slice none 0 0]
theorem lisD_at {w:World} {B N:Nat} {l:List ValD} {a:Option Addr} (c:Nat) (hl:l.length≤N) (h:ValsAt w B N l a):ValD.At w B N (lisD l) (lisR l a c) :=
 ⟨none,a,none,0,c,0,rfl,⟨⟨by show (-9223372036854775808:Int)≤6;omega,by show (6:Int)≤_;omega⟩,i64_0,i64_0,i64_0,i64_0,i64_0,Nat.zero_le _,Nat.zero_le _,Nat.zero_le _,hl,Nat.zero_le _⟩,.inl rfl,h,trivial⟩
theorem Apart.after {B L L2:Nat} {a b c:World} (h:Apart B L a b) (k:Apart B L2 b c) (hL:L2≤L):Apart B L a c :=
 ⟨k.os.trans h.os,k.tape.trans h.tape,k.output.trans h.output,Nat.le_trans h.size k.size,fun q hq hor=>(k.block q (Nat.lt_of_lt_of_le hq h.size) (by omega)).trans (h.block q hq hor)⟩
end Go.Proofs.YtagkjofpncpcpaaGreatDoor
/- A text as a result (datakitref37.text,value.Text). -/
namespace Go.Proofs.YtagkjofpncpcpaaGreatDoor
open Go.RowKit
end Go.Proofs.YtagkjofpncpcpaaGreatDoor
/- value.Text: what it gives. -/
namespace Go.Proofs.YtagkjofpncpcpaaGreatDoor
open Go.RowKit
end Go.Proofs.YtagkjofpncpcpaaGreatDoor

/- Numbers as results and their negation: decimal.Neg, datakitref02.Neg, value.Num, datakitref07.Num, builtin.number, datakitref37.number, builtin.Neg, datakitref37.Neg. -/
namespace Go.Proofs.YtagkjofpncpcpaaGreatDoor
open Go.RowKit
end Go.Proofs.YtagkjofpncpcpaaGreatDoor
