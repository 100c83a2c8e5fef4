/- value.order, by the kind of the values. -/
import Derived.Test.YtagkjofpncpcpaaGreatDoorProg
import Derived.Test.YtagkjofpncpcpaaGreatDoorGA
import Derived.Test.YtagkjofpncpcpaaGreatDoorGB
import Derived.Test.YtagkjofpncpcpaaGreatDoorShelf
import Derived.Test.YtagkjofpncpcpaaGreatDoorChkq
import Derived.Test.YtagkjofpncpcpaaGreatDoorXA
import Derived.Test.YtagkjofpncpcpaaGreatDoorXD
import Derived.Test.YtagkjofpncpcpaaGreatDoorXF
import Derived.Test.YtagkjofpncpcpaaGreatDoorXI
namespace Go.Proofs.YtagkjofpncpcpaaGreatDoor
open Go.RowKit
structure Tri3 (w W:World) (cs ds:List Value) (left:Int):Prop where
 below:Below w.heap.size w W
 one:CellsAt W w.heap.size 0 cs
 two:CellsAt W (w.heap.size+1) 0 ds
 cell:CellI W (w.heap.size+1+1) left
 num:W.cell? ⟨w.heap.size+1+1,0,none⟩=some (.int .i64 left)
 size:w.heap.size+3≤W.heap.size
theorem tri3 (w:World) (cs ds:List Value) (left:Int):Tri3 w (((w.alloc (.cells cs.toArray 30)).alloc (.cells ds.toArray 30)).alloc (.cells #[.int .i64 left] 3)) cs ds left:=by
 have D:=duo_boxes w cs ds 30
 have hs:((w.alloc (.cells cs.toArray 30)).alloc (.cells ds.toArray 30)).heap.size=w.heap.size+2:=by rw [World.size_alloc,World.size_alloc]
 have D2:=D.later (belowBox _ (.cells #[.int .i64 left] 3))
 have hI:CellI (((w.alloc (.cells cs.toArray 30)).alloc (.cells ds.toArray 30)).alloc (.cells #[.int .i64 left] 3)) (w.heap.size+1+1) left:=by
  have h:=heap_alloc_new ((w.alloc (.cells cs.toArray 30)).alloc (.cells ds.toArray 30)) (.cells #[.int .i64 left] 3)
  rw [hs] at h
  exact h
 exact ⟨D2.below,D2.one,D2.two,hI,hI.cell,by rw [World.size_alloc,hs];omega⟩
set_option maxRecDepth 100000 in
set_option maxHeartbeats 3200000 in
theorem ordP_ne {m:Nat} (IH:OrdP m) (v u:ValD) (w:World) (B N:Nat) (cs ds:List Value) (left:Int) (hm:(m:Int)+1≤left) (hleft:left≤65536) (h1:okC (m+1) v) (h2:okC (m+1) u) (hN:N≤4294967296) (hB:B≤w.heap.size) (hv:ValD.At w B N v cs) (hu:ValD.At w B N u ds) (hk:v.kind≠u.kind) :
 Calls Tryz.prog 148 #[.agg cs.toArray,.agg ds.toArray,.int .i64 left] w (CmpE (sgn v.kind u.kind) w):=by
 have hq:=And.intro (And.intro hm hleft) (And.intro hN hB);clear hq
 obtain ⟨ya,la,fa,yc,lc,fc,hh⟩:=hv.has
 obtain ⟨yb,lb,fb,yd,ld,fd,hg⟩:=hu.has
 have D0:=Hd (tri3 w cs ds left)
 have HH:=Hd hh
 have HG:=Hd hg
 have HV:=Hd hv
 have HU:=Hd hu
 have O1:=Hd h1
 have O2:=Hd h2
 have HI:=Hd IH
 have ekind:=D0.out.one.get0 HH.out.kind
 have fkind:=D0.out.two.get0 HG.out.kind
 have eI:=D0.out.num
 clear hh hg hv hu h1 h2 IH
 have hne:(v.kind != u.kind)=true:=by simpa using hk
 clear hk
 obtain ⟨r,hr⟩:∃ r,r=sgn v.kind u.kind:=⟨_,rfl⟩
 rw [← hr]
 have HR:=Hd hr
 clear hr
 go_enter Tryz.func148,Tryz.ntmps148
 go_wp2_with (go_at_call 208;refine (cmp_i _ _ _).mono ?_;rintro e w1 ⟨rfl,rfl⟩;rw [← HR.out])
 go_ret
 exact ⟨rfl,D0.out.below⟩
set_option maxRecDepth 100000 in
set_option maxHeartbeats 3200000 in
theorem ordP_0 {m:Nat} (IH:OrdP m) (v u:ValD) (w:World) (B N:Nat) (cs ds:List Value) (left:Int) (hm:(m:Int)+1≤left) (hleft:left≤65536) (h1:okC (m+1) v) (h2:okC (m+1) u) (hN:N≤4294967296) (hB:B≤w.heap.size) (hv:ValD.At w B N v cs) (hu:ValD.At w B N u ds) (hk:v.kind=0) (hku:u.kind=0) :
 Calls Tryz.prog 148 #[.agg cs.toArray,.agg ds.toArray,.int .i64 left] w (CmpE (0) w):=by
 have hq:=And.intro (And.intro hm hleft) (And.intro hN hB);clear hq
 obtain ⟨ya,la,fa,yc,lc,fc,hh⟩:=hv.has
 obtain ⟨yb,lb,fb,yd,ld,fd,hg⟩:=hu.has
 have D0:=Hd (tri3 w cs ds left)
 have HH:=Hd hh
 have HG:=Hd hg
 have HV:=Hd hv
 have HU:=Hd hu
 have O1:=Hd h1
 have O2:=Hd h2
 have HI:=Hd IH
 have ekind:=D0.out.one.get0 HH.out.kind
 have fkind:=D0.out.two.get0 HG.out.kind
 have eI:=D0.out.num
 rw [hk] at ekind
 rw [hku] at fkind
 clear hh hg hv hu h1 h2 IH hk hku
 go_enter Tryz.func148,Tryz.ntmps148
 go_wp2_with fail
 go_ret
 exact ⟨rfl,D0.out.below⟩
set_option maxRecDepth 100000 in
set_option maxHeartbeats 3200000 in
theorem ordP_1 {m:Nat} (IH:OrdP m) (v u:ValD) (w:World) (B N:Nat) (cs ds:List Value) (left:Int) (hm:(m:Int)+1≤left) (hleft:left≤65536) (h1:okC (m+1) v) (h2:okC (m+1) u) (hN:N≤4294967296) (hB:B≤w.heap.size) (hv:ValD.At w B N v cs) (hu:ValD.At w B N u ds) (hk:v.kind=1) (hku:u.kind=1) :
 Calls Tryz.prog 148 #[.agg cs.toArray,.agg ds.toArray,.int .i64 left] w (CmpE (bI v.bool-bI u.bool) w):=by
 have hq:=And.intro (And.intro hm hleft) (And.intro hN hB);clear hq
 obtain ⟨ya,la,fa,yc,lc,fc,hh⟩:=hv.has
 obtain ⟨yb,lb,fb,yd,ld,fd,hg⟩:=hu.has
 have D0:=Hd (tri3 w cs ds left)
 have HH:=Hd hh
 have HG:=Hd hg
 have HV:=Hd hv
 have HU:=Hd hu
 have O1:=Hd h1
 have O2:=Hd h2
 have HI:=Hd IH
 have ekind:=D0.out.one.get0 HH.out.kind
 have fkind:=D0.out.two.get0 HG.out.kind
 have ebool:=D0.out.one.get0 HH.out.bool
 have fbool:=D0.out.two.get0 HG.out.bool
 have eI:=D0.out.num
 rw [hk] at ekind
 rw [hku] at fkind
 clear hh hg hv hu h1 h2 IH hk hku
 obtain ⟨W,hW⟩:∃ W,W=(((w.alloc (.cells cs.toArray 30)).alloc (.cells ds.toArray 30)).alloc (.cells #[.int .i64 left] 3)):=⟨_,rfl⟩
 have HL0:=Hd (show w.heap.size<(((w.alloc (.cells cs.toArray 30)).alloc (.cells ds.toArray 30)).alloc (.cells #[.int .i64 left] 3)).heap.size by have:=D0.out.size;omega)
 have HL1:=Hd (show w.heap.size+1<(((w.alloc (.cells cs.toArray 30)).alloc (.cells ds.toArray 30)).alloc (.cells #[.int .i64 left] 3)).heap.size by have:=D0.out.size;omega)
 clear hW
 obtain ⟨x0,hx0⟩:∃ x,x=bI v.bool:=⟨_,rfl⟩
 obtain ⟨x1,hx1⟩:∃ x,x=bI u.bool:=⟨_,rfl⟩
 have b0:0≤x0∧x0≤1:=by rw [hx0];unfold bI;split<;>omega
 have b1:0≤x1∧x1≤1:=by rw [hx1];unfold bI;split<;>omega
 rw [← hx0,← hx1]
 have HX0:=Hd hx0
 have HX1:=Hd hx1
 clear hx0 hx1
 go_enter Tryz.func148,Tryz.ntmps148
 go_wp2_with fail
 refine wp_region_held_drew (S:=fun u=>Below (((w.alloc (.cells cs.toArray 30)).alloc (.cells ds.toArray 30)).alloc (.cells #[.int .i64 left] 3)).heap.size (((w.alloc (.cells cs.toArray 30)).alloc (.cells ds.toArray 30)).alloc (.cells #[.int .i64 left] 3)) u) (by kernel_rfl) (drewB _) (fun hHeld=>?_)
 refine' tk 0 (.pointer (some ⟨w.heap.size,1,none⟩)) rfl rfl (.inl ⟨by rfl,fun u hu=>(by go_simp)⟩) hHeld ?_
 simp only [sq1,sq0]
 refine' tk 1 (.bool v.bool) rfl rfl (.inl ⟨by rfl,fun q hq=>(by have hc:=(hq.cell (p:=⟨w.heap.size,1,none⟩) HL0.out).trans ebool;go_simp)⟩) hHeld ?_
 simp only [sq1,sq0]
 refine' tk 3 (.pointer (some ⟨w.heap.size+1,1,none⟩)) rfl rfl (.inl ⟨by rfl,fun u hu=>(by go_simp)⟩) hHeld ?_
 simp only [sq1,sq0]
 refine' tk 4 (.bool u.bool) rfl rfl (.inl ⟨by rfl,fun q hq=>(by have hc:=(hq.cell (p:=⟨w.heap.size+1,1,none⟩) HL1.out).trans fbool;go_simp)⟩) hHeld ?_
 simp only [sq1,sq0]
 refine rd1 2 rfl (fun K hK=>?_)
 rw [if_pos (by rfl)]
 go_simp
 refine (flag_p v.bool _).mono ?_
 rintro e uC0 ⟨rfl,rfl⟩
 rw [← HX0.out]
 refine hK.out _ _ hHeld (fun hHeld0=>?_)
 clear hK K hHeld
 have hHeld:=hHeld0
 clear hHeld0
 refine rd1 5 rfl (fun K hK=>?_)
 rw [if_pos (by rfl)]
 go_simp
 refine (flag_p u.bool _).mono ?_
 rintro e uC1 ⟨rfl,rfl⟩
 rw [← HX1.out]
 refine hK.out _ _ hHeld (fun hHeld1=>?_)
 clear hK K hHeld
 have hHeld:=hHeld1
 clear hHeld1
 refine' tk 6 (.int .i64 (x0-x1)) rfl rfl (.inl ⟨by rfl,fun u hu=>(by go_simp;all_goals first | omega | (rw [IntKind.wrap_i64];omega))⟩) hHeld ?_
 simp only [sq1,sq0]
 refine rd1 7 rfl (fun K hK=>?_)
 rw [if_pos (by rfl)]
 go_simp
 refine hK.out _ _ hHeld (fun hHeldx=>?_)
 clear hK K hHeldx
 refine wpAnyH_done (by kernel_rfl) ?_ _
 have HB1:=Hd (belowThen D0.out.below hHeld)
 clear hHeld
 go_wp2_with fail
 go_ret
 exact ⟨rfl,HB1.out⟩
set_option maxRecDepth 100000 in
set_option maxHeartbeats 3200000 in
theorem ordP_2 {m:Nat} (IH:OrdP m) (v u:ValD) (w:World) (B N:Nat) (cs ds:List Value) (left:Int) (hm:(m:Int)+1≤left) (hleft:left≤65536) (h1:okC (m+1) v) (h2:okC (m+1) u) (hN:N≤4294967296) (hB:B≤w.heap.size) (hv:ValD.At w B N v cs) (hu:ValD.At w B N u ds) (hk:v.kind=2) (hku:u.kind=2) :
 Calls Tryz.prog 148 #[.agg cs.toArray,.agg ds.toArray,.int .i64 left] w (CmpE (decC v.num u.num) w):=by
 have hq:=And.intro (And.intro hm hleft) (And.intro hN hB);clear hq
 obtain ⟨ya,la,fa,yc,lc,fc,hh⟩:=hv.has
 obtain ⟨yb,lb,fb,yd,ld,fd,hg⟩:=hu.has
 have D0:=Hd (tri3 w cs ds left)
 have HH:=Hd hh
 have HG:=Hd hg
 have HV:=Hd hv
 have HU:=Hd hu
 have O1:=Hd h1
 have O2:=Hd h2
 have HI:=Hd IH
 have ekind:=D0.out.one.get0 HH.out.kind
 have fkind:=D0.out.two.get0 HG.out.kind
 have eneg:=D0.out.one.get0 HH.out.neg
 have fneg:=D0.out.two.get0 HG.out.neg
 have edigits:=D0.out.one.get0 HH.out.digits
 have fdigits:=D0.out.two.get0 HG.out.digits
 have eexp:=D0.out.one.get0 HH.out.exp
 have fexp:=D0.out.two.get0 HG.out.exp
 have eI:=D0.out.num
 rw [hk] at ekind
 rw [hku] at fkind
 clear hh hg hv hu h1 h2 IH hk hku
 obtain ⟨r,hr⟩:∃ r,r=decC v.num u.num:=⟨_,rfl⟩
 rw [← hr]
 have HR:=Hd hr
 clear hr
 go_enter Tryz.func148,Tryz.ntmps148
 go_wp2_with fail
 refine (deccmp_p v.num u.num _ O1.out.2.1 O2.out.2.1).mono ?_
 rintro e w1 ⟨rfl,hb⟩
 rw [← HR.out]
 have HB1:=Hd (belowThen D0.out.below hb)
 clear hb
 go_wp2_with fail
 go_ret
 exact ⟨rfl,HB1.out⟩
set_option maxRecDepth 100000 in
set_option maxHeartbeats 3200000 in
theorem ordP_3 {m:Nat} (IH:OrdP m) (v u:ValD) (w:World) (B N:Nat) (cs ds:List Value) (left:Int) (hm:(m:Int)+1≤left) (hleft:left≤65536) (h1:okC (m+1) v) (h2:okC (m+1) u) (hN:N≤4294967296) (hB:B≤w.heap.size) (hv:ValD.At w B N v cs) (hu:ValD.At w B N u ds) (hk:v.kind=3) (hku:u.kind=3) :
 Calls Tryz.prog 148 #[.agg cs.toArray,.agg ds.toArray,.int .i64 left] w (CmpE (timC v.time u.time) w):=by
 have hq:=And.intro (And.intro hm hleft) (And.intro hN hB);clear hq
 obtain ⟨ya,la,fa,yc,lc,fc,hh⟩:=hv.has
 obtain ⟨yb,lb,fb,yd,ld,fd,hg⟩:=hu.has
 have D0:=Hd (tri3 w cs ds left)
 have HH:=Hd hh
 have HG:=Hd hg
 have HV:=Hd hv
 have HU:=Hd hu
 have O1:=Hd h1
 have O2:=Hd h2
 have HI:=Hd IH
 have HT1:=Hd (h1.2.2.1 hk)
 have HT2:=Hd (h2.2.2.1 hku)
 have ekind:=D0.out.one.get0 HH.out.kind
 have fkind:=D0.out.two.get0 HG.out.kind
 have etkind:=D0.out.one.get0 HH.out.tkind
 have ftkind:=D0.out.two.get0 HG.out.tkind
 have eday:=D0.out.one.get0 HH.out.day
 have fday:=D0.out.two.get0 HG.out.day
 have enano:=D0.out.one.get0 HH.out.nano
 have fnano:=D0.out.two.get0 HG.out.nano
 have eoffset:=D0.out.one.get0 HH.out.offset
 have foffset:=D0.out.two.get0 HG.out.offset
 have eI:=D0.out.num
 rw [hk] at ekind
 rw [hku] at fkind
 clear hh hg hv hu h1 h2 IH hk hku
 obtain ⟨r,hr⟩:∃ r,r=timC v.time u.time:=⟨_,rfl⟩
 rw [← hr]
 have HR:=Hd hr
 clear hr
 go_enter Tryz.func148,Tryz.ntmps148
 go_wp2_with fail
 refine (tcmp_p v.time u.time _ HT1.out HT2.out).mono ?_
 rintro e w1 ⟨rfl,hb⟩
 rw [← HR.out]
 have HB1:=Hd (belowThen D0.out.below hb)
 clear hb
 go_wp2_with fail
 go_ret
 exact ⟨rfl,HB1.out⟩
set_option maxRecDepth 100000 in
set_option maxHeartbeats 3200000 in
theorem ordP_4 {m:Nat} (IH:OrdP m) (v u:ValD) (w:World) (B N:Nat) (cs ds:List Value) (left:Int) (hm:(m:Int)+1≤left) (hleft:left≤65536) (h1:okC (m+1) v) (h2:okC (m+1) u) (hN:N≤4294967296) (hB:B≤w.heap.size) (hv:ValD.At w B N v cs) (hu:ValD.At w B N u ds) (hk:v.kind=4) (hku:u.kind=4) :
 Calls Tryz.prog 148 #[.agg cs.toArray,.agg ds.toArray,.int .i64 left] w (CmpE (cmpS v.text u.text) w):=by
 have hq:=And.intro (And.intro hm hleft) (And.intro hN hB);clear hq
 obtain ⟨ya,la,fa,yc,lc,fc,hh⟩:=hv.has
 obtain ⟨yb,lb,fb,yd,ld,fd,hg⟩:=hu.has
 have D0:=Hd (tri3 w cs ds left)
 have HH:=Hd hh
 have HG:=Hd hg
 have HV:=Hd hv
 have HU:=Hd hu
 have O1:=Hd h1
 have O2:=Hd h2
 have HI:=Hd IH
 have ekind:=D0.out.one.get0 HH.out.kind
 have fkind:=D0.out.two.get0 HG.out.kind
 have etext:=D0.out.one.get0 HH.out.text
 have ftext:=D0.out.two.get0 HG.out.text
 have eI:=D0.out.num
 rw [hk] at ekind
 rw [hku] at fkind
 clear hh hg hv hu h1 h2 IH hk hku
 obtain ⟨r,hr⟩:∃ r,r=cmpS v.text u.text:=⟨_,rfl⟩
 rw [← hr]
 have HR:=Hd (hr.trans (cmpB_S _ _).symm)
 clear hr
 go_enter Tryz.func148,Tryz.ntmps148
 go_wp2_with (go_at_call 186;refine (Tryz.strings_Compare _ _ _).mono ?_;rintro e w1 ⟨rfl,rfl⟩)
 go_ret
 exact ⟨by rw [HR.out];rfl,D0.out.below⟩
set_option maxRecDepth 100000 in
set_option maxHeartbeats 3200000 in
theorem ordP_5 {m:Nat} (IH:OrdP m) (v u:ValD) (w:World) (B N:Nat) (cs ds:List Value) (left:Int) (hm:(m:Int)+1≤left) (hleft:left≤65536) (h1:okC (m+1) v) (h2:okC (m+1) u) (hN:N≤4294967296) (hB:B≤w.heap.size) (hv:ValD.At w B N v cs) (hu:ValD.At w B N u ds) (hk:v.kind=5) (hku:u.kind=5) :
 Calls Tryz.prog 148 #[.agg cs.toArray,.agg ds.toArray,.int .i64 left] w (CmpE (lisC sgn v.bytes u.bytes) w):=by
 have hq:=And.intro (And.intro hm hleft) (And.intro hN hB);clear hq
 obtain ⟨ya,la,fa,yc,lc,fc,hh⟩:=hv.has
 obtain ⟨yb,lb,fb,yd,ld,fd,hg⟩:=hu.has
 have D0:=Hd (tri3 w cs ds left)
 have HH:=Hd hh
 have HG:=Hd hg
 have HV:=Hd hv
 have HU:=Hd hu
 have O1:=Hd h1
 have O2:=Hd h2
 have HI:=Hd IH
 have HL:=Hd (Nat.le_trans hh.own.2.2.2.2.2.2.2.2.1 hN)
 have ekind:=D0.out.one.get0 HH.out.kind
 have fkind:=D0.out.two.get0 HG.out.kind
 have ebytes:=D0.out.one.get0 HH.out.bytes
 have fbytes:=D0.out.two.get0 HG.out.bytes
 have eI:=D0.out.num
 rw [hk] at ekind
 rw [hku] at fkind
 clear hh hg hv hu h1 h2 IH hk hku
 obtain ⟨r,hr⟩:∃ r,r=lisC sgn v.bytes u.bytes:=⟨_,rfl⟩
 rw [← hr]
 have HR:=Hd hr
 clear hr
 go_enter Tryz.func148,Tryz.ntmps148
 go_wp2_with fail
 refine (bytes_p v.bytes u.bytes ya yb yc yd B _ HL.out (HH.out.atBytes.below (D0.out.below.mono hB)) (HG.out.atBytes.below (D0.out.below.mono hB))).mono ?_
 rintro e w1 ⟨rfl,rfl⟩
 rw [← HR.out]
 go_wp2_with fail
 go_ret
 exact ⟨rfl,D0.out.below⟩
set_option maxRecDepth 100000 in
set_option maxHeartbeats 3200000 in
theorem ordP_6 {m:Nat} (IH:OrdP m) (v u:ValD) (w:World) (B N:Nat) (cs ds:List Value) (left:Int) (hm:(m:Int)+1≤left) (hleft:left≤65536) (h1:okC (m+1) v) (h2:okC (m+1) u) (hN:N≤4294967296) (hB:B≤w.heap.size) (hv:ValD.At w B N v cs) (hu:ValD.At w B N u ds) (hk:v.kind=6) (hku:u.kind=6) :
 Calls Tryz.prog 148 #[.agg cs.toArray,.agg ds.toArray,.int .i64 left] w (CmpE (lisC (cmpD m) v.list u.list) w):=by
 have hq:=And.intro (And.intro hm hleft) (And.intro hN hB);clear hq
 obtain ⟨ya,la,fa,yc,lc,fc,hh⟩:=hv.has
 obtain ⟨yb,lb,fb,yd,ld,fd,hg⟩:=hu.has
 have D0:=Hd (tri3 w cs ds left)
 have HH:=Hd hh
 have HG:=Hd hg
 have HV:=Hd hv
 have HU:=Hd hu
 have O1:=Hd h1
 have O2:=Hd h2
 have HI:=Hd IH
 have HL1:=Hd hh.own.2.2.2.2.2.2.2.2.2.1
 have HL2:=Hd hg.own.2.2.2.2.2.2.2.2.2.1
 have ekind:=D0.out.one.get0 HH.out.kind
 have fkind:=D0.out.two.get0 HG.out.kind
 have elist:=D0.out.one.get0 HH.out.list
 have flist:=D0.out.two.get0 HG.out.list
 have eI:=D0.out.num
 rw [hk] at ekind
 rw [hku] at fkind
 clear hh hg hv hu h1 h2 IH hk hku
 obtain ⟨r,hr⟩:∃ r,r=lisC (cmpD m) v.list u.list:=⟨_,rfl⟩
 rw [← hr]
 have HR:=Hd hr
 clear hr
 go_enter Tryz.func148,Tryz.ntmps148
 go_wp2_with fail
 refine (cmpv_p HI.out v.list u.list la lb lc ld B N (w.heap.size+1+1) left _ hN HL1.out (Nat.le_trans hB D0.out.below.size) hm hleft O1.out.2.2.2.2.2.1 O2.out.2.2.2.2.2.1 D0.out.cell (HH.out.atList.below (D0.out.below.mono hB)) (HG.out.atList.below (D0.out.below.mono hB))).mono ?_
 rintro e w1 ⟨rfl,hb⟩
 rw [← HR.out]
 have HB1:=Hd (belowThen D0.out.below hb)
 clear hb
 go_wp2_with fail
 go_ret
 exact ⟨rfl,HB1.out⟩
set_option maxRecDepth 100000 in
set_option maxHeartbeats 3200000 in
theorem ordP_7 {m:Nat} (IH:OrdP m) (v u:ValD) (w:World) (B N:Nat) (cs ds:List Value) (left:Int) (hm:(m:Int)+1≤left) (hleft:left≤65536) (h1:okC (m+1) v) (h2:okC (m+1) u) (hN:N≤4294967296) (hB:B≤w.heap.size) (hv:ValD.At w B N v cs) (hu:ValD.At w B N u ds) (hk:v.kind=7) (hku:u.kind=7) :
 Calls Tryz.prog 148 #[.agg cs.toArray,.agg ds.toArray,.int .i64 left] w (CmpE (mapC (cmpD m) v.fields u.fields) w):=by
 have hq:=And.intro (And.intro hm hleft) (And.intro hN hB);clear hq
 obtain ⟨ya,la,fa,yc,lc,fc,hh⟩:=hv.has
 obtain ⟨yb,lb,fb,yd,ld,fd,hg⟩:=hu.has
 have D0:=Hd (tri3 w cs ds left)
 have HH:=Hd hh
 have HG:=Hd hg
 have HV:=Hd hv
 have HU:=Hd hu
 have O1:=Hd h1
 have O2:=Hd h2
 have HI:=Hd IH
 have HQ1:=Hd hh.own.2.2.2.2.2.2.2.2.2.2
 have HQ2:=Hd hg.own.2.2.2.2.2.2.2.2.2.2
 have hz1:=Hd (show (Tryz.prog.info? 30).map (·.size)=some cs.length by rw [hv.len];exact sizeV)
 have hz2:=Hd (show (Tryz.prog.info? 30).map (·.size)=some ds.length by rw [hu.len];exact sizeV)
 have ekind:=D0.out.one.get0 HH.out.kind
 have fkind:=D0.out.two.get0 HG.out.kind
 have efields:=D0.out.one.get0 HH.out.fields
 have ffields:=D0.out.two.get0 HG.out.fields
 have eI:=D0.out.num
 rw [hk] at ekind
 rw [hku] at fkind
 clear hh hg hv hu h1 h2 IH hk hku
 have HL0:=Hd (show w.heap.size<(((w.alloc (.cells cs.toArray 30)).alloc (.cells ds.toArray 30)).alloc (.cells #[.int .i64 left] 3)).heap.size by have:=D0.out.size;omega)
 have HL1:=Hd (show w.heap.size+1<(((w.alloc (.cells cs.toArray 30)).alloc (.cells ds.toArray 30)).alloc (.cells #[.int .i64 left] 3)).heap.size by have:=D0.out.size;omega)
 have RA:=Hd D0.out.one
 have RB:=Hd D0.out.two
 obtain ⟨lx,hlx⟩:∃ l,l=sortF v.fields:=⟨_,rfl⟩
 obtain ⟨ly,hly⟩:∃ l,l=sortF u.fields:=⟨_,rfl⟩
 have HN1:=Hd (show lx.length≤N by rw [hlx,sortF_len];exact HQ1.out)
 have OX:=Hd (show ∀ x∈lx,okC m x.2 from fun x hx=>O1.out.2.2.2.2.2.2 x ((sortF_perm _).mem_iff.1 (hlx ▸ hx)))
 have OY:=Hd (show ∀ x∈ly,okC m x.2 from fun x hx=>O2.out.2.2.2.2.2.2 x ((sortF_perm _).mem_iff.1 (hly ▸ hx)))
 have HLX:=Hd hlx
 have HLY:=Hd hly
 obtain ⟨r,hr⟩:∃ r,r=mapC (cmpD m) v.fields u.fields:=⟨_,rfl⟩
 rw [← hr]
 have HR:=Hd (hr.trans (mapC_rows m _ _))
 rw [← hlx,← hly] at HR
 clear hr hlx hly
 go_enter Tryz.func148,Tryz.ntmps148
 go_wp2_with fail
 refine wp_region_held_drew (S:=fun q=>Below (((w.alloc (.cells cs.toArray 30)).alloc (.cells ds.toArray 30)).alloc (.cells #[.int .i64 left] 3)).heap.size (((w.alloc (.cells cs.toArray 30)).alloc (.cells ds.toArray 30)).alloc (.cells #[.int .i64 left] 3)) q) (by kernel_rfl) (drewB _) (fun hHeld=>?_)
 refine' tk 0 (.agg cs.toArray) rfl rfl (yieldsIf_load_mid (by kernel_rfl) 30 _ rfl (w.heap.size) 0 rfl cs _ (fun q hq=>(RA.out.then hq HL0.out).range) Tryz.underlying30 rfl hz1.out) hHeld ?_
 simp only [sq1,sq0]
 refine' tk 2 (.agg ds.toArray) rfl rfl (yieldsIf_load_mid (by kernel_rfl) 30 _ rfl (w.heap.size+1) 0 rfl ds _ (fun q hq=>(RB.out.then hq HL1.out).range) Tryz.underlying30 rfl hz2.out) hHeld ?_
 simp only [sq1,sq0]
 refine rd1 1 rfl (fun K hK=>?_)
 rw [if_pos (by rfl)]
 go_simp
 refine (sorted_p v cs B N _ hN (Nat.le_trans hB (Nat.le_trans D0.out.below.size hHeld.size)) (HV.out.below ((belowThen D0.out.below hHeld).mono hB)) O1.out.2.2.2.2.1).mono ?_
 rintro e uC0 ⟨a0,k0,rfl,hbC,hfC⟩
 have HC0:=Hd hbC
 have HS0:=Hd hfC
 refine hK.out _ _ (belowThen hHeld hbC) (fun hHeld0=>?_)
 clear hK K hbC hfC hHeld
 have hHeld:=hHeld0
 clear hHeld0
 refine rd1 3 rfl (fun K hK=>?_)
 rw [if_pos (by rfl)]
 go_simp
 refine (sorted_p u ds B N _ hN (Nat.le_trans hB (Nat.le_trans D0.out.below.size hHeld.size)) (HU.out.below ((belowThen D0.out.below hHeld).mono hB)) O2.out.2.2.2.2.1).mono ?_
 rintro e uC1 ⟨a1,k1,rfl,hbC,hfC⟩
 have HC1:=Hd hbC
 have HS1:=Hd hfC
 refine hK.out _ _ (belowThen hHeld hbC) (fun hHeld1=>?_)
 clear hK K hbC hfC hHeld
 have hHeld:=hHeld1
 clear hHeld1
 refine rd1 4 rfl (fun K hK=>?_)
 rw [if_pos (by rfl)]
 go_simp
 refine hK.out _ _ hHeld (fun hHeldx=>?_)
 clear hK K hHeldx
 refine rd1 5 rfl (fun K hK=>?_)
 rw [if_pos (by rfl)]
 go_simp
 refine hK.out _ _ hHeld (fun hHeldx=>?_)
 clear hK K hHeldx
 refine wpAnyH_done (by kernel_rfl) ?_ _
 have HB1:=Hd (belowThen D0.out.below hHeld)
 have F0:=Hd ((HS0.out.below HC1.out).mono HC1.out.size)
 have F1:=HS1
 have HI1:=Hd (D0.out.cell.below hHeld)
 clear hHeld HS0 HS1 HC0 HC1
 rw [show (v.fields.length:Nat)=lx.length by rw [HLX.out,sortF_len],show (u.fields.length:Nat)=ly.length by rw [HLY.out,sortF_len]]
 rw [← HLX.out] at F0
 rw [← HLY.out] at F1
 obtain ⟨s,hs⟩:∃ s,s=lisC keyF lx ly:=⟨_,rfl⟩
 have HK:=Hd hs
 clear hs
 go_wp2_with fail
 refine (cmpk_p lx ly a0 a1 k0 k1 uC1.heap.size N uC1 hN HN1.out (Nat.le_refl _) F0.out F1.out).mono ?_
 rintro e w2 ⟨rfl,hb⟩
 rw [← HK.out]
 have HB2:=Hd (belowThen HB1.out hb)
 have HC2:=Hd hb
 have HI2:=Hd (HI1.out.below hb)
 clear hb
 by_cases h3:s=0
 ·have HQ:=Hd (show r=lisC (valF m) lx ly by rw [HR.out,← HK.out,if_pos h3])
  have h5:(s != 0)=false:=by simp [h3]
  clear h3
  go_wp2_with fail
  refine (cmpf_p HI.out lx ly a0 a1 k0 k1 uC1.heap.size N (w.heap.size+1+1) left w2 hN HN1.out HC2.out.size hm hleft OX.out OY.out HI2.out (F0.out.below HC2.out) (F1.out.below HC2.out)).mono ?_
  rintro e w3 ⟨rfl,hb⟩
  rw [← HQ.out]
  have HB3:=Hd (belowThen HB2.out hb)
  clear hb
  go_wp2_with fail
  go_ret
  exact ⟨rfl,HB3.out⟩
 ·have HQ:=Hd (show r=s by rw [HR.out,← HK.out,if_neg h3])
  have h5:(s != 0)=true:=by simp [h3]
  clear h3
  go_wp2_with fail
  go_ret
  exact ⟨by rw [HQ.out];try rfl,HB2.out⟩
theorem order_p (m:Nat):OrdP m:=by
 induction m with
 | zero=>exact fun v u w B N cs ds left _ _ h=>absurd h (by simp [okC])
 | succ m ih =>
   intro v u w B N cs ds left hm hleft h1 h2 hN hB hv hu
   have hm':(m:Int)+1≤left:=by omega
   obtain ⟨k0,k7⟩:=h1.1
   by_cases hk:v.kind=u.kind
   ·have e0:∀ r,cmpD (m+1) v u=r→CmpE r w=CmpE (cmpD (m+1) v u) w:=fun r h=>by rw [h]
    rcases (show v.kind=0∨v.kind=1∨v.kind=2∨v.kind=3∨v.kind=4∨v.kind=5∨v.kind=6∨v.kind=7 by omega) with h | h | h | h | h | h | h | h
    ·rw [← e0 0 (by unfold cmpD;simp [← hk,h])]
     exact ordP_0 ih v u w B N cs ds left hm' hleft h1 h2 hN hB hv hu h (hk ▸ h)
    ·rw [← e0 _ (show _=bI v.bool-bI u.bool by unfold cmpD;simp [← hk,h])]
     exact ordP_1 ih v u w B N cs ds left hm' hleft h1 h2 hN hB hv hu h (hk ▸ h)
    ·rw [← e0 _ (show _=decC v.num u.num by unfold cmpD;simp [← hk,h])]
     exact ordP_2 ih v u w B N cs ds left hm' hleft h1 h2 hN hB hv hu h (hk ▸ h)
    ·rw [← e0 _ (show _=timC v.time u.time by unfold cmpD;simp [← hk,h])]
     exact ordP_3 ih v u w B N cs ds left hm' hleft h1 h2 hN hB hv hu h (hk ▸ h)
    ·rw [← e0 _ (show _=cmpS v.text u.text by unfold cmpD;simp [← hk,h])]
     exact ordP_4 ih v u w B N cs ds left hm' hleft h1 h2 hN hB hv hu h (hk ▸ h)
    ·rw [← e0 _ (show _=lisC sgn v.bytes u.bytes by unfold cmpD;simp [← hk,h])]
     exact ordP_5 ih v u w B N cs ds left hm' hleft h1 h2 hN hB hv hu h (hk ▸ h)
    ·rw [← e0 _ (show _=lisC (cmpD m) v.list u.list by unfold cmpD;simp [← hk,h])]
     exact ordP_6 ih v u w B N cs ds left hm' hleft h1 h2 hN hB hv hu h (hk ▸ h)
    ·rw [← e0 _ (show _=mapC (cmpD m) v.fields u.fields by unfold cmpD;simp [← hk,h])]
     exact ordP_7 ih v u w B N cs ds left hm' hleft h1 h2 hN hB hv hu h (hk ▸ h)
   ·rw [show cmpD (m+1) v u=sgn v.kind u.kind by unfold cmpD;rw [if_pos hk]]
    exact ordP_ne ih v u w B N cs ds left hm' hleft h1 h2 hN hB hv hu hk
theorem vcmp_p (m:Nat) (hm:m≤65536) (v u:ValD) (w:World) (B N:Nat) (cs ds:List Value) (h1:okC m v) (h2:okC m u) (hN:N≤4294967296) (hB:B≤w.heap.size) (hv:ValD.At w B N v cs) (hu:ValD.At w B N u ds) :
 Calls Tryz.prog 84 #[.agg cs.toArray,.agg ds.toArray] w (CmpE (cmpD m v u) w):=by
 have D0:=Hd (duo_boxes w cs ds 30)
 have hl1:=Hd (show (Tryz.prog.info? 30).map (·.size)=some cs.length by rw [hv.len];exact sizeV)
 have hl2:=Hd (show (Tryz.prog.info? 30).map (·.size)=some ds.length by rw [hu.len];exact sizeV)
 have HR:=Hd (order_p m v u _ B N cs ds 65536 (by omega) (by omega) h1 h2 hN (Nat.le_trans hB D0.out.below.size) (hv.below (D0.out.below.mono hB)) (hu.below (D0.out.below.mono hB)))
 clear hv hu h1 h2
 go_enter Tryz.func84,Tryz.ntmps84
 go_wp2_with (first
  | ((with_reducible show wpList _ _ _ (⟨some 5,_,_,_,_,_⟩::_) _ _);refine wpList_load_mid rfl 30 _ rfl w.heap.size 0 rfl cs _ D0.out.one.range Tryz.underlying30 rfl hl1.out ?_)
  | ((with_reducible show wpList _ _ _ (⟨some 6,_,_,_,_,_⟩::_) _ _);refine wpList_load_mid rfl 30 _ rfl (w.heap.size+1) 0 rfl ds _ D0.out.two.range Tryz.underlying30 rfl hl2.out ?_))
 refine HR.out.mono ?_
 rintro e w1 ⟨rfl,hb⟩
 have HB1:=Hd (belowThen D0.out.below hb)
 clear hb
 go_wp2_with fail
 go_ret
 exact ⟨rfl,HB1.out⟩
end Go.Proofs.YtagkjofpncpcpaaGreatDoor
