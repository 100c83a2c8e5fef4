/- Equality of values but for the order of fields: plain; bytes (slices.Equal). -/
import Derived.Test.YtmjfggadehkbjaaGreatDoorProg
import Derived.Test.YtmjfggadehkbjaaGreatDoorGA
import Derived.Test.YtmjfggadehkbjaaGreatDoorGB
import Derived.Test.YtmjfggadehkbjaaGreatDoorGD
import Derived.Test.YtmjfggadehkbjaaGreatDoorRow36
import Derived.Test.YtmjfggadehkbjaaGreatDoorChkq
import Derived.Test.YtmjfggadehkbjaaGreatDoorXA
import Derived.Test.YtmjfggadehkbjaaGreatDoorXD
import Derived.Test.YtmjfggadehkbjaaGreatDoorXE
import Derived.Test.YtmjfggadehkbjaaGreatDoorXF
import Derived.Test.YtmjfggadehkbjaaGreatDoorXI
import Derived.Below
import Derived.Laws.AppendOwn
import Derived.Deep.Slices
import Derived.Deep.RegionHeld3
import Derived.Lib.Hide
import Derived.Deep.MidRow
import Derived.WalkKit
import Derived.WalkSpells
import Derived.WalkLawsBesides
import Derived.LoopTactic
import Derived.BigQuiet
import Derived.Deep.QuietTactic
import Derived.Laws.BytesArg
import Derived.OwnWalk
import Derived.Shelf.Strings.Builder1
import Derived.Shelf.Strings.Builder2
import Derived.Shelf.Strings.Trim
import Derived.Shelf.Small.Utf8
import Derived.Shelf.Small.Strs
import Derived.Shelf.Strings.BuilderF
import Derived.Shelf.Strings.BuilderK
import Derived.Shelf.Utf8.RuneCount
import Derived.Shelf.Strings.Builder2Cap
import Derived.Shelf.Strings.Search1
import Derived.Shelf.Strings.Search2
import Derived.Shelf.Strings.Search3
import Derived.Shelf.Strings.Count
import Derived.Shelf.LaysM
import Derived.Shelf.Strings.Shaped
import Derived.Shelf.Strings.Prefix
import Derived.Shelf.Strings.Split
import Derived.Shelf.Strings.SplitShaped
import Derived.Shelf.Unicode.Decode
import Derived.Shelf.Strings.Runes
import Derived.Shelf.Strings.RuneCount
import Derived.Shelf.Strings.AsciiSet
import Derived.Shelf.Strings.Explode
import Derived.Shelf.Bits.Mul64
import Derived.Shelf.Strings.Repeat
import Derived.Shelf.Unicode.DecodeSlow
import Derived.Shelf.Unicode.DecodeAny
import Derived.Shelf.Unicode.DecodeLast
import Derived.Ground.Names2Prog
import Derived.Shelf.Slices.SearchI
import Derived.Deep.AppendLies
import Derived.Lib.Repeat
import Derived.Laws.OwnMore
import Derived.Lib.SliceRun
import Derived.OrdersHeld
import Derived.Laws.CopyOwn
import Derived.Deep.WholeRow
import Derived.Laws.CopyRow
import Derived.Maps.OwnOps
import Derived.Maps.OwnSet
import Derived.Maps.Views
import Derived.Deep.Light
import Derived.Lib.Bytealg
import Derived.StillTailTactics
import Derived.Deep.DeepCutAuto
import Derived.Great.BuildSlice
import Derived.Sort.Walk0
import Derived.Deep.DeepMust
import Derived.Lib.TrimByte
import Derived.Maps.AppendAt
import Derived.Lib.DecodeN
import Derived.Lib.RuneCountTail
import Derived.Lib.Join
import Derived.Lib.IndexLaws
import Derived.Lib.CountLaws
import Derived.Lib.SplitLaws
import Derived.Lib.CutLaws
namespace Go.Proofs.YtmjfggadehkbjaaGreatDoor
open Go.RowKit
def all2 {α β:Type} (p:α→β→Bool):List α→List β→Bool
 | [],[]=>true
 | x::r,y::s=>p x y&&all2 p r s
 | _,_=>false
theorem all2_len {α β:Type} {p:α→β→Bool}:∀ {l:List α} {m:List β},l.length≠m.length→all2 p l m=false
 | [],[],h=>absurd rfl h
 | [],y::s,_=>rfl
 | x::r,[],_=>rfl
 | x::r,y::s,h=>by
   show (p x y&&all2 p r s)=false
   rw [all2_len (by simpa using h),Bool.and_false]
theorem all2_drop {α β:Type} (p:α→β→Bool) {l:List α} {m:List β} {k:Nat} (h1:k<l.length) (h2:k<m.length):all2 p (l.drop k) (m.drop k)=(p l[k] m[k]&&all2 p (l.drop (k+1)) (m.drop (k+1))):=by
 rw [List.drop_eq_getElem_cons h1,List.drop_eq_getElem_cons h2]
 rfl
theorem all2_end {α β:Type} (p:α→β→Bool) {l:List α} {m:List β} {k:Nat} (h1:l.length=k) (h2:m.length=k):all2 p (l.drop k) (m.drop k)=true:=by
 rw [List.drop_eq_nil_of_le (by omega),List.drop_eq_nil_of_le (by omega)]
 rfl
theorem all2_map {α β γ δ:Type} (p:γ→δ→Bool) (f:α→γ) (g:β→δ):∀ (l:List α) (m:List β),all2 p (l.map f) (m.map g)=all2 (fun x y=>p (f x) (g y)) l m
 | [],[]=>rfl
 | [],y::s=>rfl
 | x::r,[]=>rfl
 | x::r,y::s=>by
   show (p (f x) (g y)&&all2 p (r.map f) (s.map g))=_
   rw [all2_map p f g r s]
   rfl
theorem all2_eq {α:Type} [BEq α] [LawfulBEq α]:∀ (l m:List α),all2 (fun x y=>x==y) l m=(l==m)
 | [],[]=>rfl
 | [],y::s=>rfl
 | x::r,[]=>rfl
 | x::r,y::s=>by
   show ((x==y)&&all2 _ r s)=_
   rw [all2_eq r s]
   rfl
def headB (a b:ValD):Bool:=(a.kind==b.kind)&&((a.bool==b.bool)&&(decB a.num b.num&&(timeB a.time b.time&&((a.text.toList==b.text.toList)&&(a.bytes==b.bytes)))))
def fldB (p:ValD→ValD→Bool) (x y:ByteArray×ValD):Bool:=(x.1.toList==y.1.toList)&&p x.2 y.2
def eqvD:Nat→ValD→ValD→Bool
 | 0,_,_=>false
 | m+1,a,b=>headB a b&&(all2 (eqvD m) a.list b.list&&all2 (fldB (eqvD m)) (sortF a.fields) (sortF b.fields))
def sameD:Nat→ValD→ValD→Bool
 | 0,_,_=>false
 | m+1,a,b=>headB a b&&(all2 (sameD m) a.list b.list&&all2 (fldB (sameD m)) a.fields b.fields)
def sortD:Nat→ValD→ValD
 | 0,v=>v
 | m+1,.mk k b n t x y l f=>.mk k b n t x y (l.map (sortD m)) ((sortF f).map fun z=>(z.1,sortD m z.2))
theorem same_sort:∀ (m:Nat) (a b:ValD),sameD m (sortD m a) (sortD m b)=eqvD m a b
 | 0,_,_=>rfl
 | m+1,.mk k b n t x y l f,.mk k' b' n' t' x' y' l' f'=>by
   have ih:=same_sort m
   show (headB (.mk k b n t x y l f) (.mk k' b' n' t' x' y' l' f')&&(all2 (sameD m) (l.map (sortD m)) (l'.map (sortD m))&&all2 (fldB (sameD m)) ((sortF f).map fun z=>(z.1,sortD m z.2)) ((sortF f').map fun z=>(z.1,sortD m z.2))))=_
   rw [all2_map,all2_map]
   have e1:(fun x y=>sameD m (sortD m x) (sortD m y))=eqvD m:=by funext x y;exact ih x y
   have e2:(fun x y:ByteArray×ValD=>fldB (sameD m) (x.1,sortD m x.2) (y.1,sortD m y.2))=fldB (eqvD m):=by funext x y;show ((x.1.toList==y.1.toList)&&sameD m (sortD m x.2) (sortD m y.2))=_;rw [ih];rfl
   rw [e1,e2]
   rfl
def YnR (b:Bool) (w:World) (e:Ending) (w':World):Prop:=e=.returned (.bool b)∧Below w.heap.size w w'
theorem yn_ret {b c:Bool} {w w':World} (h:c=b) (hb:Below w.heap.size w w'):YnR c w (.returned (.bool b)) w':=by subst h;exact ⟨rfl,hb⟩
set_option maxRecDepth 100000 in
set_option maxHeartbeats 1600000 in
theorem eqb_p (l m:List Int) (ya yb:Option Addr) (yc yd B:Nat) (w:World) (hl:l.length≤4294967296) (hB:B≤w.heap.size) (ha:BytesAt w B l ya) (hb:BytesAt w B m yb) :
 Calls Tryz.prog 159 #[.slice ya l.length yc,.slice yb m.length yd] w (YnR (l==m) w):=by
 rw [← all2_eq]
 have HA:=Hd ha
 have HB:=Hd hb
 clear ha hb
 obtain ⟨P,hP⟩:∃ P:Int→Int→Bool,P=(fun x y=>x==y):=⟨_,rfl⟩
 rw [← hP]
 have HP:=Hd hP
 clear hP
 by_cases hlm:l.length=m.length
 case neg =>
  have HR:=Hd (all2_len (p:=P) hlm)
  go_enter Tryz.func159,Tryz.ntmps159
  go_wp2_with fail
  go_ret
  exact yn_ret HR.out (Below.refl _ _)
 have HLM:=Hd hlm
 go_enter Tryz.func159,Tryz.ntmps159
 go_wp2_with fail
 go_loopw [13] (fun x wr=>∃ k:Nat,x=.int .i64 k∧k≤l.length∧Hid (Below w.heap.size w wr)∧Hid (all2 P l m=all2 P (l.drop k) (m.drop k))) (fun x _=>l.length-(intOf x).toNat)
 case atStart=>exact ⟨0,rfl,Nat.zero_le _,Hd (Below.refl _ _),Hd rfl⟩
 case round =>
  obtain ⟨k,rfl,hkl,HW,HE⟩:=hrel
  by_cases h1:k<l.length
  case neg =>
   have HR:=Hd (show all2 P l m=true by rw [HE.out];exact all2_end P (k:=k) (by omega) (by have:=HLM.out;omega))
   go_wp2_with fail
   go_ret
   exact yn_ret HR.out HW.out
  have h2:k<m.length:=by have:=HLM.out;omega
  obtain ⟨b0,o0,rfl,hc0⟩:=(HA.out.below (HW.out.mono hB)).cellK (by intro h;rw [h] at h1;simp at h1)
  have c0:=hc0 k h1
  obtain ⟨x,hx⟩:∃ x,x=l[k]:=⟨_,rfl⟩
  rw [← hx] at c0
  obtain ⟨b1,o1,rfl,hc1⟩:=(HB.out.below (HW.out.mono hB)).cellK (by intro h;rw [h] at h2;simp at h2)
  have c1:=hc1 k h2
  obtain ⟨y,hy⟩:∃ y,y=m[k]:=⟨_,rfl⟩
  rw [← hy] at c1
  have HD:=Hd (show all2 P l m=((x==y)&&all2 P (l.drop (k+1)) (m.drop (k+1))) by rw [HE.out,all2_drop P h1 h2,hx,hy,HP.out])
  have HDR:=Hd (drewNU wr)
  clear hc0 hc1 hx hy
  by_cases h3:x=y
  ·subst h3
   have h5:(x != x)=false:=by simp
   go_wp2_with fail
   go_quiet (fail)
   go_wp2_with fail
   go_roundw
   case rel=>exact ⟨k+1,by go_num,by omega,Hd (HW.out.trans (HDR.out _)),Hd (by rw [HD.out];simp)⟩
   case measure=>simp [intOf];omega
  ·have h5:(x != y)=true:=by simpa using h3
   have HR:=Hd (show all2 P l m=false by rw [HD.out,show (x==y)=false by simpa using h3,Bool.false_and])
   have h6:(x==y)=false:=by simpa using h3
   clear h3
   go_wp2_with fail
   go_quiet (fail)
   go_wp2_with fail
   go_ret
   exact yn_ret HR.out (HW.out.trans (HDR.out _))
end Go.Proofs.YtmjfggadehkbjaaGreatDoor

/- Lists and fields under value.same: its closures, slices.EqualFunc. -/
namespace Go.Proofs.YtmjfggadehkbjaaGreatDoor
open Go.RowKit Stb
def EqvP (m:Nat):Prop:=∀ (v u:ValD) (w:World) (B N:Nat) (cs ds:List Value) (left:Int),(m:Int)≤left→left≤65536→okC m v→okC m u→N≤4294967296→B≤w.heap.size→ValD.At w B N v cs→ValD.At w B N u ds →
 Calls Tryz.prog 111 #[.agg cs.toArray,.agg ds.toArray,.bool false,.int .i64 left] w (YnR (eqvD m v u) w)
theorem wpList_store_new2 {P:Program} {ops:Array Oper} {rest:List Oper} {op:Oper} {a:Act} {w:World} {Q:Exit→Act→World→Prop} (hgd:op.guard=none) (ty:TypeId) (x y:Operand) (ho:op.op=.store ty x y) (b:Nat) (hb:w.heap.size=b)
 (c c':Array Value) (hx:a.eval x=.pointer (some ⟨b,0,none⟩)) (hy:a.eval y=.agg c')
 (hi:(P.info? ty).map (·.size)=some c'.size) (hc:c.size=c'.size) (h1:c'.all (·.oneCell')=true)
 (h:wpList P ops Q rest (a.put op.dst undef) (w.alloc (.cells c' ty))):wpList P ops Q (op::rest) a (w.alloc (.cells c ty)):=by
 subst hb
 exact wpList_store_new hgd ty x y ho c c' hx hy hi hc h1 h
def CellX (w:World) (xb:Nat) (v:Value):Prop:=w.cell? ⟨xb,0,none⟩=some v
theorem CellX.below {w w':World} {xb:Nat} {v:Value} (h:CellX w xb v) (hb:Below w.heap.size w w'):CellX w' xb v:=by
 unfold CellX at h ⊢
 rw [hb.cell (World.block_lt_of_cell? w _ h)];exact h
set_option maxRecDepth 100000 in
theorem same1_p {m:Nat} (IH:EqvP m) (v u:ValD) (w:World) (B N xb pb:Nat) (cs ds:List Value) (left:Int) (hm:(m:Int)+1≤left) (hleft:left≤65536) (h1:okC m v) (h2:okC m u) (hN:N≤4294967296) (hB:B≤w.heap.size)
 (hv:ValD.At w B N v cs) (hu:ValD.At w B N u ds) (hx:CellX w xb (.bool false)) (hc:CellX w pb (.int .i64 left)) :
 Calls Tryz.prog 160 #[.agg cs.toArray,.agg ds.toArray,.pointer (some ⟨xb,0,none⟩),.pointer (some ⟨pb,0,none⟩)] w (YnR (eqvD m v u) w):=by
 have D0:=Hd (duo_boxes w cs ds 30)
 have hl1:=Hd (show (Tryz.prog.info? 30).map (·.size)=some cs.length by rw [hv.len];exact sizeV)
 have hl2:=Hd (show (Tryz.prog.info? 30).map (·.size)=some ds.length by rw [hu.len];exact sizeV)
 have cI:_=_:=hc.below D0.out.below
 have cX:_=_:=hx.below D0.out.below
 have HR:=Hd (IH v u _ B N cs ds (left-1) (by omega) (by omega) h1 h2 hN (Nat.le_trans hB D0.out.below.size) (hv.below (D0.out.below.mono hB)) (hu.below (D0.out.below.mono hB)))
 clear hv hu hc hx IH h1 h2
 go_enter Tryz.func160,Tryz.ntmps160
 go_wp2_with (first
  | ((with_reducible show wpList _ _ _ (⟨some 7,_,_,_,_,_⟩::_) _ _);refine wpList_load_mid rfl 30 _ rfl w.heap.size 0 rfl cs _ D0.out.one.range Tryz.underlying30 rfl hl1.out ?_)
  | ((with_reducible show wpList _ _ _ (⟨some 8,_,_,_,_,_⟩::_) _ _);refine wpList_load_mid rfl 30 _ rfl (w.heap.size+1) 0 rfl ds _ D0.out.two.range Tryz.underlying30 rfl hl2.out ?_))
 refine HR.out.mono ?_
 rintro e w1 ⟨rfl,hb⟩
 have HB1:=Hd (belowThen D0.out.below hb)
 clear hb
 go_wp2_with fail
 go_ret
 exact yn_ret rfl HB1.out
def oneF (xb pb:Nat):Value:=.func (.func 160) #[] #[.pointer (some ⟨xb,0,none⟩),.pointer (some ⟨pb,0,none⟩)]
set_option maxRecDepth 100000 in
set_option maxHeartbeats 1600000 in
theorem same2_p {m:Nat} (IH:EqvP m) (x y:ByteArray×ValD) (w:World) (B N xb pb ob:Nat) (cs ds xs ys:List Value) (left:Int) (hcs:cs=.string x.1::xs) (hds:ds=.string y.1::ys) (hm:(m:Int)+1≤left) (hleft:left≤65536) (h1:okC m x.2) (h2:okC m y.2) (hN:N≤4294967296) (hB:B≤w.heap.size)
 (hv:ValD.At w B N x.2 xs) (hu:ValD.At w B N y.2 ys) (hx:CellX w xb (.bool false)) (hc:CellX w pb (.int .i64 left)) (ho:CellX w ob (oneF xb pb)) :
 Calls Tryz.prog 163 #[.agg cs.toArray,.agg ds.toArray,.pointer (some ⟨ob,0,none⟩)] w (YnR (fldB (eqvD m) x y) w):=by
 obtain ⟨k1,v⟩:=x
 obtain ⟨k2,u⟩:=y
 have D0:=Hd (duo_boxes w cs ds 77)
 have hl1:=Hd (show (Tryz.prog.info? 30).map (·.size)=some xs.length by rw [hv.len];exact sizeV)
 have hl2:=Hd (show (Tryz.prog.info? 30).map (·.size)=some ys.length by rw [hu.len];exact sizeV)
 have c1:_=_:=D0.out.one.get0 (show cs[0]?=some (.string k1) by rw [hcs];rfl)
 have c2:_=_:=D0.out.two.get0 (show ds[0]?=some (.string k2) by rw [hds];rfl)
 have R1:=Hd (show CellsAt ((w.alloc (.cells cs.toArray 77)).alloc (.cells ds.toArray 77)) w.heap.size 1 xs from by have:=D0.out.one;rw [hcs] at this ⊢;exact this.tail)
 have R2:=Hd (show CellsAt ((w.alloc (.cells cs.toArray 77)).alloc (.cells ds.toArray 77)) (w.heap.size+1) 1 ys from by have:=D0.out.two;rw [hds] at this ⊢;exact this.tail)
 have cO:_=_:=ho.below D0.out.below
 have HR:=Hd (same1_p IH v u _ B N xb pb xs ys left hm hleft h1 h2 hN (Nat.le_trans hB D0.out.below.size) (hv.below (D0.out.below.mono hB)) (hu.below (D0.out.below.mono hB)) (hx.below D0.out.below) (hc.below D0.out.below))
 unfold oneF at cO
 clear hv hu hc hx ho IH h1 h2 hcs hds
 obtain ⟨t,ht⟩:∃ t,(k1.toList==k2.toList)=t:=⟨_,rfl⟩
 have HT:=Hd (show fldB (eqvD m) (k1,v) (k2,u)=(t&&eqvD m v u) by unfold fldB;rw [ht])
 cases t
 ·have HQ:=Hd (show fldB (eqvD m) (k1,v) (k2,u)=false by rw [HT.out];rfl)
  go_enter Tryz.func163,Tryz.ntmps163
  go_wp2_with fail
  go_ret
  exact yn_ret HQ.out D0.out.below
 ·have HQ:=Hd (show fldB (eqvD m) (k1,v) (k2,u)=eqvD m v u by rw [HT.out];rfl)
  go_enter Tryz.func163,Tryz.ntmps163
  go_wp2_with (first
   | ((with_reducible show wpList _ _ _ (⟨some 14,_,_,_,_,_⟩::_) _ _);refine wpList_load_mid_g' (by kernel_rfl) 30 _ rfl w.heap.size 1 rfl xs _ R1.out.range Tryz.underlying30 rfl hl1.out ?_)
   | ((with_reducible show wpList _ _ _ (⟨some 16,_,_,_,_,_⟩::_) _ _);refine wpList_load_mid_g' (by kernel_rfl) 30 _ rfl (w.heap.size+1) 1 rfl ys _ R2.out.range Tryz.underlying30 rfl hl2.out ?_))
  refine HR.out.mono ?_
  rintro e w1 ⟨rfl,hb⟩
  have HB1:=Hd (belowThen D0.out.below hb)
  clear hb
  go_wp2_with fail
  go_ret
  exact yn_ret HQ.out HB1.out
set_option maxRecDepth 100000 in
set_option maxHeartbeats 3200000 in
theorem eqfv_p {m:Nat} (IH:EqvP m) (l1 l2:List ValD) (ya yb:Option Addr) (yc yd B N xb pb:Nat) (left:Int) (w:World) (hN:N≤4294967296) (hn1:l1.length≤N) (hB:B≤w.heap.size) (hm:(m:Int)+1≤left) (hleft:left≤65536) (ho1:∀ x∈l1,okC m x) (ho2:∀ x∈l2,okC m x) (hx:CellX w xb (.bool false)) (hc:CellX w pb (.int .i64 left)) (ha:ValsAt w B N l1 ya) (hb:ValsAt w B N l2 yb) :
 Calls Tryz.prog 161 #[.slice ya l1.length yc,.slice yb l2.length yd,.func (.func 160) #[] #[.pointer (some ⟨xb,0,none⟩),.pointer (some ⟨pb,0,none⟩)]] w (YnR (all2 (eqvD m) l1 l2) w):=by
 have HA:=Hd ha
 have HB0:=Hd hb
 obtain ⟨P,hP⟩:∃ P,P=eqvD m:=⟨_,rfl⟩
 rw [← hP]
 have HPP:=Hd hP
 have HI:=Hd IH
 have HO1:=Hd ho1
 have HO2:=Hd ho2
 have HC:=Hd hc
 have HX:=Hd hx
 clear IH ho1 ho2 hc hx ha hb hP
 by_cases hlm:l1.length=l2.length
 case neg =>
  have HR:=Hd (all2_len (p:=P) hlm)
  go_enter Tryz.func161,Tryz.ntmps161
  go_wp2_with fail
  go_ret
  exact yn_ret HR.out (Below.refl _ _)
 have HLM:=Hd hlm
 have hnl:((l1.length:Int) != (l2.length:Int))=false:=by rw [hlm];simp
 clear hlm
 go_enter Tryz.func161,Tryz.ntmps161
 go_wp2_with fail
 clear hnl
 go_loopw [17] (fun x wr=>∃ k:Nat,x=.int .i64 k∧k≤l1.length∧Hid (Below w.heap.size w wr)∧Hid (all2 P l1 l2=all2 P (l1.drop k) (l2.drop k))) (fun x _=>l1.length-(intOf x).toNat)
 case atStart=>exact ⟨0,rfl,Nat.zero_le _,Hd (Below.refl _ _),Hd rfl⟩
 case round =>
  obtain ⟨wa,hwa⟩:∃ wa,wa=wr:=⟨_,rfl⟩
  subst wr
  obtain ⟨k,rfl,hkl,HB,HE⟩:=hrel
  by_cases h1:k<l1.length
  case neg =>
   have HR:=Hd (show all2 P l1 l2=true by rw [HE.out];exact all2_end P (k:=k) (by omega) (by have:=HLM.out;omega))
   go_wp2_with fail
   go_ret
   exact yn_ret HR.out HB.out
  have h2:k<l2.length:=by have:=HLM.out;omega
  have HD:=Hd (show all2 P l1 l2=(P l1[k] l2[k]&&all2 P (l1.drop (k+1)) (l2.drop (k+1))) by rw [HE.out,all2_drop P h1 h2])
  obtain ⟨s,hs⟩:∃ s,s=P l1[k] l2[k]:=⟨_,rfl⟩
  rw [← hs] at HD
  rw [HPP.out] at hs
  have HS:=Hd hs
  clear hs
  obtain ⟨b0,o0,rfl,hb0,hg0⟩:=HA.out.get (by intro h;rw [h] at h1;simp at h1)
  obtain ⟨c0,hc0,hv0⟩:=hg0 k h1
  obtain ⟨b1,o1,rfl,hb1,hg1⟩:=HB0.out.get (by intro h;rw [h] at h2;simp at h2)
  obtain ⟨c1,hc1,hv1⟩:=hg1 k h2
  have hl0:=hv0.len
  have hl1:=hv1.len
  have one0:=hv0.oneCell
  have one1:=hv1.oneCell
  have V0:=Hd hv0
  have V1:=Hd hv1
  clear hg0 hv0 hg1 hv1
  have C0:=Hd (show CellsAt wa b0 (o0+k * 13) c0 from hc0.below (HB.out.mono hB) hb0)
  have C1:=Hd (show CellsAt (wa.alloc (.cells c0.toArray 30)) b1 (o1+k * 13) c1 from hc1.below ((belowThen HB.out (belowBox wa _)).mono hB) hb1)
  have hz0:=Hd (show (Tryz.prog.info? 30).map (·.size)=some c0.length by rw [hl0];kernel_rfl)
  have hz1:=Hd (show (Tryz.prog.info? 30).map (·.size)=some c1.length by rw [hl1];kernel_rfl)
  have ha0:=Hd (show (Tryz.prog.info? 30).map (·.size)=some c0.toArray.size by rw [List.size_toArray];exact hz0.out)
  have ha1:=Hd (show (Tryz.prog.info? 30).map (·.size)=some c1.toArray.size by rw [List.size_toArray];exact hz1.out)
  have hb00:=Hd (show 13=c0.toArray.size by rw [List.size_toArray,hl0])
  have hb11:=Hd (show 13=c1.toArray.size by rw [List.size_toArray,hl1])
  have n0:=Hd (Go.all_oneCell_toArray one0)
  have n1:=Hd (Go.all_oneCell_toArray one1)
  have D0:=Hd (duo_boxes wa c0 c1 30)
  have HBD:=Hd (belowThen HB.out D0.out.below)
  clear hc0 hc1 hl0 hl1 one0 one1
  go_wp2_with (first
   | ((with_reducible show wpList _ _ _ (⟨some 21,_,_,_,_,_⟩::_) _ _);refine wpList_load_mid rfl 30 _ rfl b0 (o0+k * 13) rfl c0 _ C0.out.range Tryz.underlying30 rfl hz0.out ?_)
   | ((with_reducible show wpList _ _ _ (⟨none,.store 30 (.tmp 8) (.tmp 21),_,_,_,_⟩::_) _ _);refine wpList_store_new rfl 30 _ _ rfl _ c0.toArray rfl rfl ha0.out hb00.out n0.out ?_)
   | ((with_reducible show wpList _ _ _ (⟨some 25,_,_,_,_,_⟩::_) _ _);refine wpList_load_mid rfl 30 _ rfl b1 (o1+k * 13) rfl c1 _ C1.out.range Tryz.underlying30 rfl hz1.out ?_)
   | ((with_reducible show wpList _ _ _ (⟨none,.store 30 (.tmp 9) (.tmp 25),_,_,_,_⟩::_) _ _);refine wpList_store_new2 rfl 30 _ _ rfl (wa.heap.size+1) (by rw [World.size_alloc]) _ c1.toArray rfl rfl ha1.out hb11.out n1.out ?_)
   | ((with_reducible show wpList _ _ _ (⟨some 27,_,_,_,_,_⟩::_) _ _);refine wpList_load_mid rfl 30 _ rfl wa.heap.size 0 rfl c0 _ D0.out.one.range Tryz.underlying30 rfl hz0.out ?_)
   | ((with_reducible show wpList _ _ _ (⟨some 28,_,_,_,_,_⟩::_) _ _);refine wpList_load_mid rfl 30 _ rfl (wa.heap.size+1) 0 rfl c1 _ D0.out.two.range Tryz.underlying30 rfl hz1.out ?_))
  refine (same1_p HI.out l1[k] l2[k] _ B N xb pb c0 c1 left hm hleft (HO1.out _ (List.getElem_mem h1)) (HO2.out _ (List.getElem_mem h2)) hN (Nat.le_trans hB HBD.out.size) (V0.out.below (HBD.out.mono hB)) (V1.out.below (HBD.out.mono hB)) (HX.out.below HBD.out) (HC.out.below HBD.out)).mono ?_
  rintro e w2 ⟨rfl,hbC⟩
  rw [← HS.out]
  have HB2:=Hd (belowThen HBD.out hbC)
  clear hbC
  cases s with
  | true =>
    go_wp2_with fail
    go_roundw
    case rel=>exact ⟨k+1,by go_num,by omega,HB2,Hd (by rw [HD.out];rfl)⟩
    case measure=>simp [intOf];omega
  | false =>
    have HR:=Hd (show all2 P l1 l2=false by rw [HD.out];rfl)
    go_wp2_with fail
    go_ret
    exact yn_ret HR.out HB2.out
set_option maxRecDepth 100000 in
set_option maxHeartbeats 3200000 in
theorem eqff_p {m:Nat} (IH:EqvP m) (l1 l2:List (ByteArray×ValD)) (ya yb:Option Addr) (yc yd B N xb pb ob:Nat) (left:Int) (w:World) (hN:N≤4294967296) (hn1:l1.length≤N) (hB:B≤w.heap.size) (hm:(m:Int)+1≤left) (hleft:left≤65536) (ho1:∀ x∈l1,okC m x.2) (ho2:∀ x∈l2,okC m x.2) (hx:CellX w xb (.bool false)) (hc:CellX w pb (.int .i64 left)) (hoo:CellX w ob (oneF xb pb)) (ha:FieldsAt w B N l1 ya) (hb:FieldsAt w B N l2 yb) :
 Calls Tryz.prog 162 #[.slice ya l1.length yc,.slice yb l2.length yd,.func (.func 163) #[] #[.pointer (some ⟨ob,0,none⟩)]] w (YnR (all2 (fldB (eqvD m)) l1 l2) w):=by
 have HA:=Hd ha
 have HB0:=Hd hb
 obtain ⟨P,hP⟩:∃ P,P=fldB (eqvD m):=⟨_,rfl⟩
 rw [← hP]
 have HPP:=Hd hP
 have HI:=Hd IH
 have HO1:=Hd ho1
 have HO2:=Hd ho2
 have HC:=Hd hc
 have HX:=Hd hx
 have HOO:=Hd hoo
 clear IH ho1 ho2 hc hx ha hb hP hoo
 by_cases hlm:l1.length=l2.length
 case neg =>
  have HR:=Hd (all2_len (p:=P) hlm)
  go_enter Tryz.func162,Tryz.ntmps162
  go_wp2_with fail
  go_ret
  exact yn_ret HR.out (Below.refl _ _)
 have HLM:=Hd hlm
 have hnl:((l1.length:Int) != (l2.length:Int))=false:=by rw [hlm];simp
 clear hlm
 go_enter Tryz.func162,Tryz.ntmps162
 go_wp2_with fail
 clear hnl
 go_loopw [17] (fun x wr=>∃ k:Nat,x=.int .i64 k∧k≤l1.length∧Hid (Below w.heap.size w wr)∧Hid (all2 P l1 l2=all2 P (l1.drop k) (l2.drop k))) (fun x _=>l1.length-(intOf x).toNat)
 case atStart=>exact ⟨0,rfl,Nat.zero_le _,Hd (Below.refl _ _),Hd rfl⟩
 case round =>
  obtain ⟨wa,hwa⟩:∃ wa,wa=wr:=⟨_,rfl⟩
  subst wr
  obtain ⟨k,rfl,hkl,HB,HE⟩:=hrel
  by_cases h1:k<l1.length
  case neg =>
   have HR:=Hd (show all2 P l1 l2=true by rw [HE.out];exact all2_end P (k:=k) (by omega) (by have:=HLM.out;omega))
   go_wp2_with fail
   go_ret
   exact yn_ret HR.out HB.out
  have h2:k<l2.length:=by have:=HLM.out;omega
  have HD:=Hd (show all2 P l1 l2=(P l1[k] l2[k]&&all2 P (l1.drop (k+1)) (l2.drop (k+1))) by rw [HE.out,all2_drop P h1 h2])
  obtain ⟨s,hs⟩:∃ s,s=P l1[k] l2[k]:=⟨_,rfl⟩
  rw [← hs] at HD
  rw [HPP.out] at hs
  have HS:=Hd hs
  clear hs
  obtain ⟨b0,o0,f0,rfl,hb0,hf0,hg0⟩:=HA.out.rows (l:=l1) (by intro h;rw [h] at h1;simp at h1)
  obtain ⟨x0,hx0,_,hv0⟩:=hf0 k h1
  have hc0:=hg0 k h1
  have hl0:=hf0.len k h1
  have one0:=hf0.one k h1
  obtain ⟨b1,o1,f1,rfl,hb1,hf1,hg1⟩:=HB0.out.rows (l:=l2) (by intro h;rw [h] at h2;simp at h2)
  obtain ⟨x1,hx1,_,hv1⟩:=hf1 k h2
  have hc1:=hg1 k h2
  have hl1:=hf1.len k h2
  have one1:=hf1.one k h2
  obtain ⟨c0,hc00⟩:∃ c0,c0=f0 k:=⟨_,rfl⟩
  obtain ⟨c1,hc11⟩:∃ c1,c1=f1 k:=⟨_,rfl⟩
  rw [← hc00] at hx0 hc0 hl0 one0
  rw [← hc11] at hx1 hc1 hl1 one1
  have V0:=Hd hv0
  have V1:=Hd hv1
  have X0:=Hd hx0
  have X1:=Hd hx1
  clear hg0 hv0 hg1 hv1 hf0 hf1 hx0 hx1 hc00 hc11
  have C0:=Hd (show CellsAt wa b0 (o0+k * 14) c0 from hc0.below (HB.out.mono hB) hb0)
  have C1:=Hd (show CellsAt (wa.alloc (.cells c0.toArray 77)) b1 (o1+k * 14) c1 from hc1.below ((belowThen HB.out (belowBox wa _)).mono hB) hb1)
  have hz0:=Hd (show (Tryz.prog.info? 77).map (·.size)=some c0.length by rw [hl0];kernel_rfl)
  have hz1:=Hd (show (Tryz.prog.info? 77).map (·.size)=some c1.length by rw [hl1];kernel_rfl)
  have ha0:=Hd (show (Tryz.prog.info? 77).map (·.size)=some c0.toArray.size by rw [List.size_toArray];exact hz0.out)
  have ha1:=Hd (show (Tryz.prog.info? 77).map (·.size)=some c1.toArray.size by rw [List.size_toArray];exact hz1.out)
  have hb00:=Hd (show 14=c0.toArray.size by rw [List.size_toArray,hl0])
  have hb11:=Hd (show 14=c1.toArray.size by rw [List.size_toArray,hl1])
  have n0:=Hd (Go.all_oneCell_toArray one0)
  have n1:=Hd (Go.all_oneCell_toArray one1)
  have D0:=Hd (duo_boxes wa c0 c1 77)
  have HBD:=Hd (belowThen HB.out D0.out.below)
  clear hc0 hc1 hl0 hl1 one0 one1
  go_wp2_with (first
   | ((with_reducible show wpList _ _ _ (⟨some 21,_,_,_,_,_⟩::_) _ _);refine wpList_load_mid rfl 77 _ rfl b0 (o0+k * 14) rfl c0 _ C0.out.range Tryz.underlying77 rfl hz0.out ?_)
   | ((with_reducible show wpList _ _ _ (⟨none,.store 77 (.tmp 8) (.tmp 21),_,_,_,_⟩::_) _ _);refine wpList_store_new rfl 77 _ _ rfl _ c0.toArray rfl rfl ha0.out hb00.out n0.out ?_)
   | ((with_reducible show wpList _ _ _ (⟨some 25,_,_,_,_,_⟩::_) _ _);refine wpList_load_mid rfl 77 _ rfl b1 (o1+k * 14) rfl c1 _ C1.out.range Tryz.underlying77 rfl hz1.out ?_)
   | ((with_reducible show wpList _ _ _ (⟨none,.store 77 (.tmp 9) (.tmp 25),_,_,_,_⟩::_) _ _);refine wpList_store_new2 rfl 77 _ _ rfl (wa.heap.size+1) (by rw [World.size_alloc]) _ c1.toArray rfl rfl ha1.out hb11.out n1.out ?_)
   | ((with_reducible show wpList _ _ _ (⟨some 27,_,_,_,_,_⟩::_) _ _);refine wpList_load_mid rfl 77 _ rfl wa.heap.size 0 rfl c0 _ D0.out.one.range Tryz.underlying77 rfl hz0.out ?_)
   | ((with_reducible show wpList _ _ _ (⟨some 28,_,_,_,_,_⟩::_) _ _);refine wpList_load_mid rfl 77 _ rfl (wa.heap.size+1) 0 rfl c1 _ D0.out.two.range Tryz.underlying77 rfl hz1.out ?_))
  refine (same2_p HI.out l1[k] l2[k] _ B N xb pb ob c0 c1 x0 x1 left X0.out X1.out hm hleft (HO1.out _ (List.getElem_mem h1)) (HO2.out _ (List.getElem_mem h2)) hN (Nat.le_trans hB HBD.out.size) (V0.out.below (HBD.out.mono hB)) (V1.out.below (HBD.out.mono hB)) (HX.out.below HBD.out) (HC.out.below HBD.out) (HOO.out.below HBD.out)).mono ?_
  rintro e w2 ⟨rfl,hbC⟩
  rw [← HS.out]
  have HB2:=Hd (belowThen HBD.out hbC)
  clear hbC
  cases s with
  | true =>
    go_wp2_with fail
    go_roundw
    case rel=>exact ⟨k+1,by go_num,by omega,HB2,Hd (by rw [HD.out];rfl)⟩
    case measure=>simp [intOf];omega
  | false =>
    have HR:=Hd (show all2 P l1 l2=false by rw [HD.out];rfl)
    go_wp2_with fail
    go_ret
    exact yn_ret HR.out HB2.out
end Go.Proofs.YtmjfggadehkbjaaGreatDoor

/- value.same: two values agree in everything but the order of fields. -/
namespace Go.Proofs.YtmjfggadehkbjaaGreatDoor
open Go.RowKit Stb
theorem bool_eq2 {p q:Bool} (h:(p==q)=true):(p=true∧q=true)∨(p=false∧q=false):=by cases p<;>cases q<;>simp_all
theorem bool_ne2 {p q:Bool} (h:(p==q)=false):(p=true∧q=false)∨(p=false∧q=true):=by cases p<;>cases q<;>simp_all
set_option maxRecDepth 100000 in
set_option maxHeartbeats 3200000 in
theorem same_no0 {m:Nat} (v u:ValD) (w:World) (B N:Nat) (cs ds:List Value) (left:Int) (h1:okC (m+1) v) (h2:okC (m+1) u) (hN:N≤4294967296) (hB:B≤w.heap.size) (hv:ValD.At w B N v cs) (hu:ValD.At w B N u ds) (b0:(v.kind==u.kind)=false) :
 Calls Tryz.prog 111 #[.agg cs.toArray,.agg ds.toArray,.bool false,.int .i64 left] w (YnR false w):=by
 have O1:=Hd h1
 have O2:=Hd h2
 obtain ⟨ya,la,va,yc,lc,vc,hh⟩:=hv.has
 obtain ⟨yb,lb,vb,yd,ld,vd,hg⟩:=hu.has
 have HV:=Hd hv
 have HU:=Hd hu
 have HH:=Hd hh
 have HG:=Hd hg
 have hz1:=Hd (show (Tryz.prog.info? 30).map (·.size)=some cs.length by rw [hv.len];exact sizeV)
 have hz2:=Hd (show (Tryz.prog.info? 30).map (·.size)=some ds.length by rw [hu.len];exact sizeV)
 have D2:=duo_boxes w cs ds 30
 have D0:=Hd ((D2.later (belowBox _ (.cells #[.bool false] 4))).later (belowBox _ (.cells #[.int .i64 left] 3)))
 have hs2:((w.alloc (.cells cs.toArray 30)).alloc (.cells ds.toArray 30)).heap.size=w.heap.size+2:=by rw [World.size_alloc,World.size_alloc]
 have XB:=Hd (show CellX ((((w.alloc (.cells cs.toArray 30)).alloc (.cells ds.toArray 30)).alloc (.cells #[.bool false] 4)).alloc (.cells #[.int .i64 left] 3)) (w.heap.size+2) (.bool false) from by
  have h:CellX (((w.alloc (.cells cs.toArray 30)).alloc (.cells ds.toArray 30)).alloc (.cells #[.bool false] 4)) (w.heap.size+2) (.bool false):=by
   have h:=(RowT.new ((w.alloc (.cells cs.toArray 30)).alloc (.cells ds.toArray 30)) 4 [.bool false]).cell (j:=0) rfl
   rw [hs2] at h
   exact h
  exact h.below (belowBox _ _))
 have PB:=Hd (show CellX ((((w.alloc (.cells cs.toArray 30)).alloc (.cells ds.toArray 30)).alloc (.cells #[.bool false] 4)).alloc (.cells #[.int .i64 left] 3)) (w.heap.size+3) (.int .i64 left) from by
  have h:=(RowT.new (((w.alloc (.cells cs.toArray 30)).alloc (.cells ds.toArray 30)).alloc (.cells #[.bool false] 4)) 3 [.int .i64 left]).cell (j:=0) rfl
  rw [World.size_alloc,hs2] at h
  exact h)
 clear D2 hs2
 have ekind:=D0.out.one.get0 hh.kind
 have fkind:=D0.out.two.get0 hg.kind
 have ebool:=D0.out.one.get0 hh.bool
 have fbool:=D0.out.two.get0 hg.bool
 have eneg:=D0.out.one.get0 hh.neg
 have fneg:=D0.out.two.get0 hg.neg
 have edigits:=D0.out.one.get0 hh.digits
 have fdigits:=D0.out.two.get0 hg.digits
 have eexp:=D0.out.one.get0 hh.exp
 have fexp:=D0.out.two.get0 hg.exp
 have etkind:=D0.out.one.get0 hh.tkind
 have ftkind:=D0.out.two.get0 hg.tkind
 have eday:=D0.out.one.get0 hh.day
 have fday:=D0.out.two.get0 hg.day
 have enano:=D0.out.one.get0 hh.nano
 have fnano:=D0.out.two.get0 hg.nano
 have eoffset:=D0.out.one.get0 hh.offset
 have foffset:=D0.out.two.get0 hg.offset
 have etext:=D0.out.one.get0 hh.text
 have ftext:=D0.out.two.get0 hg.text
 have ebytes:=D0.out.one.get0 hh.bytes
 have fbytes:=D0.out.two.get0 hg.bytes
 have z0:(v.kind != u.kind)=true:=by have:=b0;revert this;unfold bne;intro h;rw [h];rfl
 have E1:=eqDEC v.num u.num
 have E2:=eqTIME v.time u.time
 have G1:=guardDEC
 have G2:=guardTIME
 clear hh hg hv hu h1 h2 b0
 have hq:=And.intro hN (And.intro hB (And.intro O1 O2));clear hq
 go_enter Tryz.func111,Tryz.ntmps111
 go_wp2_with fail
 go_ret
 exact yn_ret rfl D0.out.below
set_option maxRecDepth 100000 in
set_option maxHeartbeats 3200000 in
theorem same_no1 {m:Nat} (v u:ValD) (w:World) (B N:Nat) (cs ds:List Value) (left:Int) (h1:okC (m+1) v) (h2:okC (m+1) u) (hN:N≤4294967296) (hB:B≤w.heap.size) (hv:ValD.At w B N v cs) (hu:ValD.At w B N u ds) (b0:(v.kind==u.kind)=true) (b1:(v.bool==u.bool)=false) :
 Calls Tryz.prog 111 #[.agg cs.toArray,.agg ds.toArray,.bool false,.int .i64 left] w (YnR false w):=by
 have O1:=Hd h1
 have O2:=Hd h2
 obtain ⟨ya,la,va,yc,lc,vc,hh⟩:=hv.has
 obtain ⟨yb,lb,vb,yd,ld,vd,hg⟩:=hu.has
 have HV:=Hd hv
 have HU:=Hd hu
 have HH:=Hd hh
 have HG:=Hd hg
 have hz1:=Hd (show (Tryz.prog.info? 30).map (·.size)=some cs.length by rw [hv.len];exact sizeV)
 have hz2:=Hd (show (Tryz.prog.info? 30).map (·.size)=some ds.length by rw [hu.len];exact sizeV)
 have D2:=duo_boxes w cs ds 30
 have D0:=Hd ((D2.later (belowBox _ (.cells #[.bool false] 4))).later (belowBox _ (.cells #[.int .i64 left] 3)))
 have hs2:((w.alloc (.cells cs.toArray 30)).alloc (.cells ds.toArray 30)).heap.size=w.heap.size+2:=by rw [World.size_alloc,World.size_alloc]
 have XB:=Hd (show CellX ((((w.alloc (.cells cs.toArray 30)).alloc (.cells ds.toArray 30)).alloc (.cells #[.bool false] 4)).alloc (.cells #[.int .i64 left] 3)) (w.heap.size+2) (.bool false) from by
  have h:CellX (((w.alloc (.cells cs.toArray 30)).alloc (.cells ds.toArray 30)).alloc (.cells #[.bool false] 4)) (w.heap.size+2) (.bool false):=by
   have h:=(RowT.new ((w.alloc (.cells cs.toArray 30)).alloc (.cells ds.toArray 30)) 4 [.bool false]).cell (j:=0) rfl
   rw [hs2] at h
   exact h
  exact h.below (belowBox _ _))
 have PB:=Hd (show CellX ((((w.alloc (.cells cs.toArray 30)).alloc (.cells ds.toArray 30)).alloc (.cells #[.bool false] 4)).alloc (.cells #[.int .i64 left] 3)) (w.heap.size+3) (.int .i64 left) from by
  have h:=(RowT.new (((w.alloc (.cells cs.toArray 30)).alloc (.cells ds.toArray 30)).alloc (.cells #[.bool false] 4)) 3 [.int .i64 left]).cell (j:=0) rfl
  rw [World.size_alloc,hs2] at h
  exact h)
 clear D2 hs2
 have ekind:=D0.out.one.get0 hh.kind
 have fkind:=D0.out.two.get0 hg.kind
 have ebool:=D0.out.one.get0 hh.bool
 have fbool:=D0.out.two.get0 hg.bool
 have eneg:=D0.out.one.get0 hh.neg
 have fneg:=D0.out.two.get0 hg.neg
 have edigits:=D0.out.one.get0 hh.digits
 have fdigits:=D0.out.two.get0 hg.digits
 have eexp:=D0.out.one.get0 hh.exp
 have fexp:=D0.out.two.get0 hg.exp
 have etkind:=D0.out.one.get0 hh.tkind
 have ftkind:=D0.out.two.get0 hg.tkind
 have eday:=D0.out.one.get0 hh.day
 have fday:=D0.out.two.get0 hg.day
 have enano:=D0.out.one.get0 hh.nano
 have fnano:=D0.out.two.get0 hg.nano
 have eoffset:=D0.out.one.get0 hh.offset
 have foffset:=D0.out.two.get0 hg.offset
 have etext:=D0.out.one.get0 hh.text
 have ftext:=D0.out.two.get0 hg.text
 have ebytes:=D0.out.one.get0 hh.bytes
 have fbytes:=D0.out.two.get0 hg.bytes
 have z0:(v.kind != u.kind)=false:=by have:=b0;revert this;unfold bne;intro h;rw [h];rfl
 have E1:=eqDEC v.num u.num
 have E2:=eqTIME v.time u.time
 have G1:=guardDEC
 have G2:=guardTIME
 clear hh hg hv hu h1 h2 b0
 obtain ⟨p,hp⟩:∃ p,v.bool=p:=⟨_,rfl⟩
 obtain ⟨q,hq0⟩:∃ q,u.bool=q:=⟨_,rfl⟩
 rw [hp] at ebool b1
 rw [hq0] at fbool b1
 clear hp hq0
 rcases bool_ne2 b1 with ⟨rfl,rfl⟩ | ⟨rfl,rfl⟩
 all_goals
  clear b1
  have hq:=And.intro hN (And.intro hB (And.intro O1 O2));clear hq
  go_enter Tryz.func111,Tryz.ntmps111
  go_wp2_with fail
  go_ret
  exact yn_ret rfl D0.out.below
set_option maxRecDepth 100000 in
set_option maxHeartbeats 3200000 in
theorem same_no2 {m:Nat} (v u:ValD) (w:World) (B N:Nat) (cs ds:List Value) (left:Int) (h1:okC (m+1) v) (h2:okC (m+1) u) (hN:N≤4294967296) (hB:B≤w.heap.size) (hv:ValD.At w B N v cs) (hu:ValD.At w B N u ds) (b0:(v.kind==u.kind)=true) (b1:(v.bool==u.bool)=true) (b2:decB v.num u.num=false) :
 Calls Tryz.prog 111 #[.agg cs.toArray,.agg ds.toArray,.bool false,.int .i64 left] w (YnR false w):=by
 have O1:=Hd h1
 have O2:=Hd h2
 obtain ⟨ya,la,va,yc,lc,vc,hh⟩:=hv.has
 obtain ⟨yb,lb,vb,yd,ld,vd,hg⟩:=hu.has
 have HV:=Hd hv
 have HU:=Hd hu
 have HH:=Hd hh
 have HG:=Hd hg
 have hz1:=Hd (show (Tryz.prog.info? 30).map (·.size)=some cs.length by rw [hv.len];exact sizeV)
 have hz2:=Hd (show (Tryz.prog.info? 30).map (·.size)=some ds.length by rw [hu.len];exact sizeV)
 have D2:=duo_boxes w cs ds 30
 have D0:=Hd ((D2.later (belowBox _ (.cells #[.bool false] 4))).later (belowBox _ (.cells #[.int .i64 left] 3)))
 have hs2:((w.alloc (.cells cs.toArray 30)).alloc (.cells ds.toArray 30)).heap.size=w.heap.size+2:=by rw [World.size_alloc,World.size_alloc]
 have XB:=Hd (show CellX ((((w.alloc (.cells cs.toArray 30)).alloc (.cells ds.toArray 30)).alloc (.cells #[.bool false] 4)).alloc (.cells #[.int .i64 left] 3)) (w.heap.size+2) (.bool false) from by
  have h:CellX (((w.alloc (.cells cs.toArray 30)).alloc (.cells ds.toArray 30)).alloc (.cells #[.bool false] 4)) (w.heap.size+2) (.bool false):=by
   have h:=(RowT.new ((w.alloc (.cells cs.toArray 30)).alloc (.cells ds.toArray 30)) 4 [.bool false]).cell (j:=0) rfl
   rw [hs2] at h
   exact h
  exact h.below (belowBox _ _))
 have PB:=Hd (show CellX ((((w.alloc (.cells cs.toArray 30)).alloc (.cells ds.toArray 30)).alloc (.cells #[.bool false] 4)).alloc (.cells #[.int .i64 left] 3)) (w.heap.size+3) (.int .i64 left) from by
  have h:=(RowT.new (((w.alloc (.cells cs.toArray 30)).alloc (.cells ds.toArray 30)).alloc (.cells #[.bool false] 4)) 3 [.int .i64 left]).cell (j:=0) rfl
  rw [World.size_alloc,hs2] at h
  exact h)
 clear D2 hs2
 have ekind:=D0.out.one.get0 hh.kind
 have fkind:=D0.out.two.get0 hg.kind
 have ebool:=D0.out.one.get0 hh.bool
 have fbool:=D0.out.two.get0 hg.bool
 have eneg:=D0.out.one.get0 hh.neg
 have fneg:=D0.out.two.get0 hg.neg
 have edigits:=D0.out.one.get0 hh.digits
 have fdigits:=D0.out.two.get0 hg.digits
 have eexp:=D0.out.one.get0 hh.exp
 have fexp:=D0.out.two.get0 hg.exp
 have etkind:=D0.out.one.get0 hh.tkind
 have ftkind:=D0.out.two.get0 hg.tkind
 have eday:=D0.out.one.get0 hh.day
 have fday:=D0.out.two.get0 hg.day
 have enano:=D0.out.one.get0 hh.nano
 have fnano:=D0.out.two.get0 hg.nano
 have eoffset:=D0.out.one.get0 hh.offset
 have foffset:=D0.out.two.get0 hg.offset
 have etext:=D0.out.one.get0 hh.text
 have ftext:=D0.out.two.get0 hg.text
 have ebytes:=D0.out.one.get0 hh.bytes
 have fbytes:=D0.out.two.get0 hg.bytes
 have z0:(v.kind != u.kind)=false:=by have:=b0;revert this;unfold bne;intro h;rw [h];rfl
 have E1:=eqDEC v.num u.num
 have E2:=eqTIME v.time u.time
 have G1:=guardDEC
 have G2:=guardTIME
 rw [b2] at E1
 clear hh hg hv hu h1 h2 b0 b2
 obtain ⟨p,hp⟩:∃ p,v.bool=p:=⟨_,rfl⟩
 obtain ⟨q,hq0⟩:∃ q,u.bool=q:=⟨_,rfl⟩
 rw [hp] at ebool b1
 rw [hq0] at fbool b1
 clear hp hq0
 rcases bool_eq2 b1 with ⟨rfl,rfl⟩ | ⟨rfl,rfl⟩
 all_goals
  clear b1
  have hq:=And.intro hN (And.intro hB (And.intro O1 O2));clear hq
  go_enter Tryz.func111,Tryz.ntmps111
  go_wp2_with fail
  go_ret
  exact yn_ret rfl D0.out.below
set_option maxRecDepth 100000 in
set_option maxHeartbeats 3200000 in
theorem same_no3 {m:Nat} (v u:ValD) (w:World) (B N:Nat) (cs ds:List Value) (left:Int) (h1:okC (m+1) v) (h2:okC (m+1) u) (hN:N≤4294967296) (hB:B≤w.heap.size) (hv:ValD.At w B N v cs) (hu:ValD.At w B N u ds) (b0:(v.kind==u.kind)=true) (b1:(v.bool==u.bool)=true) (b2:decB v.num u.num=true) (b3:timeB v.time u.time=false) :
 Calls Tryz.prog 111 #[.agg cs.toArray,.agg ds.toArray,.bool false,.int .i64 left] w (YnR false w):=by
 have O1:=Hd h1
 have O2:=Hd h2
 obtain ⟨ya,la,va,yc,lc,vc,hh⟩:=hv.has
 obtain ⟨yb,lb,vb,yd,ld,vd,hg⟩:=hu.has
 have HV:=Hd hv
 have HU:=Hd hu
 have HH:=Hd hh
 have HG:=Hd hg
 have hz1:=Hd (show (Tryz.prog.info? 30).map (·.size)=some cs.length by rw [hv.len];exact sizeV)
 have hz2:=Hd (show (Tryz.prog.info? 30).map (·.size)=some ds.length by rw [hu.len];exact sizeV)
 have D2:=duo_boxes w cs ds 30
 have D0:=Hd ((D2.later (belowBox _ (.cells #[.bool false] 4))).later (belowBox _ (.cells #[.int .i64 left] 3)))
 have hs2:((w.alloc (.cells cs.toArray 30)).alloc (.cells ds.toArray 30)).heap.size=w.heap.size+2:=by rw [World.size_alloc,World.size_alloc]
 have XB:=Hd (show CellX ((((w.alloc (.cells cs.toArray 30)).alloc (.cells ds.toArray 30)).alloc (.cells #[.bool false] 4)).alloc (.cells #[.int .i64 left] 3)) (w.heap.size+2) (.bool false) from by
  have h:CellX (((w.alloc (.cells cs.toArray 30)).alloc (.cells ds.toArray 30)).alloc (.cells #[.bool false] 4)) (w.heap.size+2) (.bool false):=by
   have h:=(RowT.new ((w.alloc (.cells cs.toArray 30)).alloc (.cells ds.toArray 30)) 4 [.bool false]).cell (j:=0) rfl
   rw [hs2] at h
   exact h
  exact h.below (belowBox _ _))
 have PB:=Hd (show CellX ((((w.alloc (.cells cs.toArray 30)).alloc (.cells ds.toArray 30)).alloc (.cells #[.bool false] 4)).alloc (.cells #[.int .i64 left] 3)) (w.heap.size+3) (.int .i64 left) from by
  have h:=(RowT.new (((w.alloc (.cells cs.toArray 30)).alloc (.cells ds.toArray 30)).alloc (.cells #[.bool false] 4)) 3 [.int .i64 left]).cell (j:=0) rfl
  rw [World.size_alloc,hs2] at h
  exact h)
 clear D2 hs2
 have ekind:=D0.out.one.get0 hh.kind
 have fkind:=D0.out.two.get0 hg.kind
 have ebool:=D0.out.one.get0 hh.bool
 have fbool:=D0.out.two.get0 hg.bool
 have eneg:=D0.out.one.get0 hh.neg
 have fneg:=D0.out.two.get0 hg.neg
 have edigits:=D0.out.one.get0 hh.digits
 have fdigits:=D0.out.two.get0 hg.digits
 have eexp:=D0.out.one.get0 hh.exp
 have fexp:=D0.out.two.get0 hg.exp
 have etkind:=D0.out.one.get0 hh.tkind
 have ftkind:=D0.out.two.get0 hg.tkind
 have eday:=D0.out.one.get0 hh.day
 have fday:=D0.out.two.get0 hg.day
 have enano:=D0.out.one.get0 hh.nano
 have fnano:=D0.out.two.get0 hg.nano
 have eoffset:=D0.out.one.get0 hh.offset
 have foffset:=D0.out.two.get0 hg.offset
 have etext:=D0.out.one.get0 hh.text
 have ftext:=D0.out.two.get0 hg.text
 have ebytes:=D0.out.one.get0 hh.bytes
 have fbytes:=D0.out.two.get0 hg.bytes
 have z0:(v.kind != u.kind)=false:=by have:=b0;revert this;unfold bne;intro h;rw [h];rfl
 have E1:=eqDEC v.num u.num
 have E2:=eqTIME v.time u.time
 have G1:=guardDEC
 have G2:=guardTIME
 rw [b2] at E1
 rw [b3] at E2
 clear hh hg hv hu h1 h2 b0 b2 b3
 obtain ⟨p,hp⟩:∃ p,v.bool=p:=⟨_,rfl⟩
 obtain ⟨q,hq0⟩:∃ q,u.bool=q:=⟨_,rfl⟩
 rw [hp] at ebool b1
 rw [hq0] at fbool b1
 clear hp hq0
 rcases bool_eq2 b1 with ⟨rfl,rfl⟩ | ⟨rfl,rfl⟩
 all_goals
  clear b1
  have hq:=And.intro hN (And.intro hB (And.intro O1 O2));clear hq
  go_enter Tryz.func111,Tryz.ntmps111
  go_wp2_with fail
  go_ret
  exact yn_ret rfl D0.out.below
set_option maxRecDepth 100000 in
set_option maxHeartbeats 3200000 in
theorem same_no4 {m:Nat} (v u:ValD) (w:World) (B N:Nat) (cs ds:List Value) (left:Int) (h1:okC (m+1) v) (h2:okC (m+1) u) (hN:N≤4294967296) (hB:B≤w.heap.size) (hv:ValD.At w B N v cs) (hu:ValD.At w B N u ds) (b0:(v.kind==u.kind)=true) (b1:(v.bool==u.bool)=true) (b2:decB v.num u.num=true) (b3:timeB v.time u.time=true) (b4:(v.text.toList==u.text.toList)=false) :
 Calls Tryz.prog 111 #[.agg cs.toArray,.agg ds.toArray,.bool false,.int .i64 left] w (YnR false w):=by
 have O1:=Hd h1
 have O2:=Hd h2
 obtain ⟨ya,la,va,yc,lc,vc,hh⟩:=hv.has
 obtain ⟨yb,lb,vb,yd,ld,vd,hg⟩:=hu.has
 have HV:=Hd hv
 have HU:=Hd hu
 have HH:=Hd hh
 have HG:=Hd hg
 have hz1:=Hd (show (Tryz.prog.info? 30).map (·.size)=some cs.length by rw [hv.len];exact sizeV)
 have hz2:=Hd (show (Tryz.prog.info? 30).map (·.size)=some ds.length by rw [hu.len];exact sizeV)
 have D2:=duo_boxes w cs ds 30
 have D0:=Hd ((D2.later (belowBox _ (.cells #[.bool false] 4))).later (belowBox _ (.cells #[.int .i64 left] 3)))
 have hs2:((w.alloc (.cells cs.toArray 30)).alloc (.cells ds.toArray 30)).heap.size=w.heap.size+2:=by rw [World.size_alloc,World.size_alloc]
 have XB:=Hd (show CellX ((((w.alloc (.cells cs.toArray 30)).alloc (.cells ds.toArray 30)).alloc (.cells #[.bool false] 4)).alloc (.cells #[.int .i64 left] 3)) (w.heap.size+2) (.bool false) from by
  have h:CellX (((w.alloc (.cells cs.toArray 30)).alloc (.cells ds.toArray 30)).alloc (.cells #[.bool false] 4)) (w.heap.size+2) (.bool false):=by
   have h:=(RowT.new ((w.alloc (.cells cs.toArray 30)).alloc (.cells ds.toArray 30)) 4 [.bool false]).cell (j:=0) rfl
   rw [hs2] at h
   exact h
  exact h.below (belowBox _ _))
 have PB:=Hd (show CellX ((((w.alloc (.cells cs.toArray 30)).alloc (.cells ds.toArray 30)).alloc (.cells #[.bool false] 4)).alloc (.cells #[.int .i64 left] 3)) (w.heap.size+3) (.int .i64 left) from by
  have h:=(RowT.new (((w.alloc (.cells cs.toArray 30)).alloc (.cells ds.toArray 30)).alloc (.cells #[.bool false] 4)) 3 [.int .i64 left]).cell (j:=0) rfl
  rw [World.size_alloc,hs2] at h
  exact h)
 clear D2 hs2
 have ekind:=D0.out.one.get0 hh.kind
 have fkind:=D0.out.two.get0 hg.kind
 have ebool:=D0.out.one.get0 hh.bool
 have fbool:=D0.out.two.get0 hg.bool
 have eneg:=D0.out.one.get0 hh.neg
 have fneg:=D0.out.two.get0 hg.neg
 have edigits:=D0.out.one.get0 hh.digits
 have fdigits:=D0.out.two.get0 hg.digits
 have eexp:=D0.out.one.get0 hh.exp
 have fexp:=D0.out.two.get0 hg.exp
 have etkind:=D0.out.one.get0 hh.tkind
 have ftkind:=D0.out.two.get0 hg.tkind
 have eday:=D0.out.one.get0 hh.day
 have fday:=D0.out.two.get0 hg.day
 have enano:=D0.out.one.get0 hh.nano
 have fnano:=D0.out.two.get0 hg.nano
 have eoffset:=D0.out.one.get0 hh.offset
 have foffset:=D0.out.two.get0 hg.offset
 have etext:=D0.out.one.get0 hh.text
 have ftext:=D0.out.two.get0 hg.text
 have ebytes:=D0.out.one.get0 hh.bytes
 have fbytes:=D0.out.two.get0 hg.bytes
 have z0:(v.kind != u.kind)=false:=by have:=b0;revert this;unfold bne;intro h;rw [h];rfl
 have E1:=eqDEC v.num u.num
 have E2:=eqTIME v.time u.time
 have G1:=guardDEC
 have G2:=guardTIME
 rw [b2] at E1
 rw [b3] at E2
 clear hh hg hv hu h1 h2 b0 b2 b3
 obtain ⟨p,hp⟩:∃ p,v.bool=p:=⟨_,rfl⟩
 obtain ⟨q,hq0⟩:∃ q,u.bool=q:=⟨_,rfl⟩
 rw [hp] at ebool b1
 rw [hq0] at fbool b1
 clear hp hq0
 rcases bool_eq2 b1 with ⟨rfl,rfl⟩ | ⟨rfl,rfl⟩
 all_goals
  clear b1
  have hq:=And.intro hN (And.intro hB (And.intro O1 O2));clear hq
  go_enter Tryz.func111,Tryz.ntmps111
  go_wp2_with fail
  go_ret
  exact yn_ret rfl D0.out.below
set_option maxRecDepth 100000 in
set_option maxHeartbeats 3200000 in
theorem same_no5 {m:Nat} (v u:ValD) (w:World) (B N:Nat) (cs ds:List Value) (left:Int) (h1:okC (m+1) v) (h2:okC (m+1) u) (hN:N≤4294967296) (hB:B≤w.heap.size) (hv:ValD.At w B N v cs) (hu:ValD.At w B N u ds) (b0:(v.kind==u.kind)=true) (b1:(v.bool==u.bool)=true) (b2:decB v.num u.num=true) (b3:timeB v.time u.time=true) (b4:(v.text.toList==u.text.toList)=true) (b5:(v.bytes==u.bytes)=false) :
 Calls Tryz.prog 111 #[.agg cs.toArray,.agg ds.toArray,.bool false,.int .i64 left] w (YnR false w):=by
 have O1:=Hd h1
 have O2:=Hd h2
 obtain ⟨ya,la,va,yc,lc,vc,hh⟩:=hv.has
 obtain ⟨yb,lb,vb,yd,ld,vd,hg⟩:=hu.has
 have HV:=Hd hv
 have HU:=Hd hu
 have HH:=Hd hh
 have HG:=Hd hg
 have hz1:=Hd (show (Tryz.prog.info? 30).map (·.size)=some cs.length by rw [hv.len];exact sizeV)
 have hz2:=Hd (show (Tryz.prog.info? 30).map (·.size)=some ds.length by rw [hu.len];exact sizeV)
 have D2:=duo_boxes w cs ds 30
 have D0:=Hd ((D2.later (belowBox _ (.cells #[.bool false] 4))).later (belowBox _ (.cells #[.int .i64 left] 3)))
 have hs2:((w.alloc (.cells cs.toArray 30)).alloc (.cells ds.toArray 30)).heap.size=w.heap.size+2:=by rw [World.size_alloc,World.size_alloc]
 have XB:=Hd (show CellX ((((w.alloc (.cells cs.toArray 30)).alloc (.cells ds.toArray 30)).alloc (.cells #[.bool false] 4)).alloc (.cells #[.int .i64 left] 3)) (w.heap.size+2) (.bool false) from by
  have h:CellX (((w.alloc (.cells cs.toArray 30)).alloc (.cells ds.toArray 30)).alloc (.cells #[.bool false] 4)) (w.heap.size+2) (.bool false):=by
   have h:=(RowT.new ((w.alloc (.cells cs.toArray 30)).alloc (.cells ds.toArray 30)) 4 [.bool false]).cell (j:=0) rfl
   rw [hs2] at h
   exact h
  exact h.below (belowBox _ _))
 have PB:=Hd (show CellX ((((w.alloc (.cells cs.toArray 30)).alloc (.cells ds.toArray 30)).alloc (.cells #[.bool false] 4)).alloc (.cells #[.int .i64 left] 3)) (w.heap.size+3) (.int .i64 left) from by
  have h:=(RowT.new (((w.alloc (.cells cs.toArray 30)).alloc (.cells ds.toArray 30)).alloc (.cells #[.bool false] 4)) 3 [.int .i64 left]).cell (j:=0) rfl
  rw [World.size_alloc,hs2] at h
  exact h)
 clear D2 hs2
 have ekind:=D0.out.one.get0 hh.kind
 have fkind:=D0.out.two.get0 hg.kind
 have ebool:=D0.out.one.get0 hh.bool
 have fbool:=D0.out.two.get0 hg.bool
 have eneg:=D0.out.one.get0 hh.neg
 have fneg:=D0.out.two.get0 hg.neg
 have edigits:=D0.out.one.get0 hh.digits
 have fdigits:=D0.out.two.get0 hg.digits
 have eexp:=D0.out.one.get0 hh.exp
 have fexp:=D0.out.two.get0 hg.exp
 have etkind:=D0.out.one.get0 hh.tkind
 have ftkind:=D0.out.two.get0 hg.tkind
 have eday:=D0.out.one.get0 hh.day
 have fday:=D0.out.two.get0 hg.day
 have enano:=D0.out.one.get0 hh.nano
 have fnano:=D0.out.two.get0 hg.nano
 have eoffset:=D0.out.one.get0 hh.offset
 have foffset:=D0.out.two.get0 hg.offset
 have etext:=D0.out.one.get0 hh.text
 have ftext:=D0.out.two.get0 hg.text
 have ebytes:=D0.out.one.get0 hh.bytes
 have fbytes:=D0.out.two.get0 hg.bytes
 have z0:(v.kind != u.kind)=false:=by have:=b0;revert this;unfold bne;intro h;rw [h];rfl
 have E1:=eqDEC v.num u.num
 have E2:=eqTIME v.time u.time
 have G1:=guardDEC
 have G2:=guardTIME
 rw [b2] at E1
 rw [b3] at E2
 have HB5:=Hd b5
 clear hh hg hv hu h1 h2 b0 b2 b3 b5
 obtain ⟨p,hp⟩:∃ p,v.bool=p:=⟨_,rfl⟩
 obtain ⟨q,hq0⟩:∃ q,u.bool=q:=⟨_,rfl⟩
 rw [hp] at ebool b1
 rw [hq0] at fbool b1
 clear hp hq0
 rcases bool_eq2 b1 with ⟨rfl,rfl⟩ | ⟨rfl,rfl⟩
 all_goals
  clear b1
  have hq:=And.intro hN (And.intro hB (And.intro O1 O2));clear hq
  go_enter Tryz.func111,Tryz.ntmps111
  go_wp2_with fail
  refine (eqb_p v.bytes u.bytes ya yb yc yd B _ (by have:=O1.out.2.2.2.1.2;omega) (Nat.le_trans hB D0.out.below.size) (HH.out.atBytes.below (D0.out.below.mono hB)) (HG.out.atBytes.below (D0.out.below.mono hB))).mono ?_
  rintro e w1 ⟨rfl,hb⟩
  rw [HB5.out]
  have HBE:=Hd (belowThen D0.out.below hb)
  clear hb
  go_wp2_with fail
  go_ret
  exact yn_ret rfl HBE.out
end Go.Proofs.YtmjfggadehkbjaaGreatDoor
