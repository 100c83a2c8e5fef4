/- qanalyze.small, selection, selects: of an accepted expression they give what eq, dZ, cQ say. -/
import Derived.Test.YtiefeajappjnbaaGreatDoorGA
import Derived.Test.YtiefeajappjnbaaGreatDoorHH
import Derived.Test.YtiefeajappjnbaaGreatDoorHG
import Derived.Lib.ConvBytes
namespace Go.Proofs.YtiefeajappjnbaaGreatDoor
open Go.RowKit
def r8 (o:Option Int) (w:World) (e:Ending) (w':World):Prop:=∃ (n:Int) (b:Bool),e=.returned (.tuple #[.int .i64 n,.bool b])∧Hid (o=if b then some n else none)∧Below w.heap.size w w'
theorem fZ {w:World} {B N:Nat} {x:ag} {cs:List Value} (hx:ag.At w B N x cs):cs[0]?=some (.int .i64 x.op)∧cs[2]?=some (.int .i64 x.val.kind)∧(cs.drop 4).take 3=[.bool x.val.num.neg,.string x.val.num.digits,.int .i64 x.val.num.exp]:=by
 obtain ⟨ya,la,va,aa,fa,yc,lc,vc,ac,fc,rfl,_⟩:=hx.row
 exact ⟨rfl,rfl,rfl⟩
theorem jG:(Tryz.prog.info? 23).map (·.size)=some 3:=by kernel_rfl
theorem vp {s:ByteArray} {k:Nat} (h:k<s.size):((s.data.toList.getD k 0).toNat:Int)=aI s k:=by
 rw [← bd h,List.getD_eq_getElem?_getD,List.getElem?_eq_getElem (by simpa using h)]
 rfl
theorem xi {k:IntKind} {a b:Int} (h:a=b):Value.int k a=.int k b:=by rw [h]
theorem qJ (w:World) (e:TypeId) (s:ByteArray):Below w.heap.size w (Lib.bytesWorld w e s):=⟨rfl,rfl,rfl,by rw [Lib.bytesWorld_size];omega,fun k hk=>Lib.bytesWorld_at_old w e s k hk⟩
set_option maxRecDepth 100000 in
set_option maxHeartbeats 1600000 in
theorem Bp (x:ag) (h:x.op≠3) (w:World) (B N:Nat) (cs:List Value) (hx:ag.At w B N x cs):Calls Tryz.prog 142 #[.agg cs.toArray] w (r8 (eq x) w):=by
 obtain ⟨c0,c2,hnm⟩:=fZ hx
 have HNM:=Hd hnm
 have R0:=Hd (aA w cs 34)
 have H0:=Hd (af w (.cells cs.toArray 34))
 have HG:=Hd (pi (x:=x) (fun g=>h g.1))
 clear hx hnm
 generalize eq x=q at *
 generalize x.op=o at *
 generalize x.val.kind=kd at *
 generalize x.val.num.neg=ng at *
 generalize x.val.num.digits=dg at *
 generalize x.val.num.exp=ex at *
 have e3:(o==3)=false:=by simpa using h
 have n3:(o != 3)=true:=by simpa using h
 go_enter Tryz.func142,Tryz.ntmps142
 go_wp2_with (refine wpList_load_mid rfl 23 _ rfl w.heap.size 4 rfl [.bool ng,.string dg,.int .i64 ex] _ (R0.out.part HNM.out) Tryz.underlying23 rfl jG ?_)
 go_ret2
 exact ⟨0,false,rfl,Hd (by rw [HG.out];rfl),ae H0.out (af _ _)⟩
set_option maxRecDepth 100000 in
set_option maxHeartbeats 1600000 in
theorem vS (x:ag) (h3:x.op=3) (h:x.val.kind≠2) (w:World) (B N:Nat) (cs:List Value) (hx:ag.At w B N x cs):Calls Tryz.prog 142 #[.agg cs.toArray] w (r8 (eq x) w):=by
 obtain ⟨c0,c2,hnm⟩:=fZ hx
 rw [h3] at c0
 have HNM:=Hd hnm
 have R0:=Hd (aA w cs 34)
 have H0:=Hd (af w (.cells cs.toArray 34))
 have HG:=Hd (pi (x:=x) (fun g=>h g.2))
 clear hx hnm h3
 generalize eq x=q at *
 generalize x.val.kind=kd at *
 generalize x.val.num.neg=ng at *
 generalize x.val.num.digits=dg at *
 generalize x.val.num.exp=ex at *
 have e3:(kd==2)=false:=by simpa using h
 have n3:(kd != 2)=true:=by simpa using h
 go_enter Tryz.func142,Tryz.ntmps142
 go_wp2_with (refine wpList_load_mid rfl 23 _ rfl w.heap.size 4 rfl [.bool ng,.string dg,.int .i64 ex] _ (R0.out.part HNM.out) Tryz.underlying23 rfl jG ?_)
 go_ret2
 exact ⟨0,false,rfl,Hd (by rw [HG.out];rfl),ae H0.out (af _ _)⟩
set_option maxRecDepth 100000 in
set_option maxHeartbeats 1600000 in
theorem zf (x:ag) (h3:x.op=3) (h2:x.val.kind=2) (hn:x.val.num.neg=false) (h:x.val.num.exp<0) (w:World) (B N:Nat) (cs:List Value) (hx:ag.At w B N x cs):Calls Tryz.prog 142 #[.agg cs.toArray] w (r8 (eq x) w):=by
 obtain ⟨c0,c2,hnm⟩:=fZ hx
 rw [h3] at c0
 rw [h2] at c2
 rw [hn] at hnm
 have HNM:=Hd hnm
 have R0:=Hd (aA w cs 34)
 have H0:=Hd (af w (.cells cs.toArray 34))
 have HG:=Hd (ue (x:=x) h)
 clear hx hnm h3 h2 hn
 generalize eq x=q at *
 generalize x.val.num.digits=dg at *
 generalize x.val.num.exp=ex at *
 go_enter Tryz.func142,Tryz.ntmps142
 go_wp2_with (refine wpList_load_mid rfl 23 _ rfl w.heap.size 4 rfl [.bool false,.string dg,.int .i64 ex] _ (R0.out.part HNM.out) Tryz.underlying23 rfl jG ?_)
 go_ret2
 exact ⟨0,false,rfl,Hd (by rw [HG.out];rfl),ae H0.out (af _ _)⟩
set_option maxRecDepth 100000 in
set_option maxHeartbeats 1600000 in
theorem zg (x:ag) (h3:x.op=3) (h2:x.val.kind=2) (hn:x.val.num.neg=false) (he:0≤x.val.num.exp) (hv:gP x.val.num) (h:5<x.val.num.digits.size+x.val.num.exp) (w:World) (B N:Nat) (cs:List Value) (hx:ag.At w B N x cs):Calls Tryz.prog 142 #[.agg cs.toArray] w (r8 (eq x) w):=by
 obtain ⟨c0,c2,hnm⟩:=fZ hx
 rw [h3] at c0
 rw [h2] at c2
 rw [hn] at hnm
 have HNM:=Hd hnm
 have R0:=Hd (aA w cs 34)
 have H0:=Hd (af w (.cells cs.toArray 34))
 have HG:=Hd (vV (x:=x) hv hn h)
 have hs:x.val.num.digits.size≤120:=by rcases hv with ⟨h,_⟩ | ⟨_,h,_⟩<;>omega
 have hx':x.val.num.exp≤400:=by rcases hv with ⟨_,_,h⟩ | ⟨_,_,_,_,_,_,h⟩<;>omega
 clear hx hnm h3 h2 hn hv
 generalize eq x=q at *
 generalize x.val.num.digits=dg at *
 generalize x.val.num.exp=ex at *
 go_enter Tryz.func142,Tryz.ntmps142
 go_wp2_with (refine wpList_load_mid rfl 23 _ rfl w.heap.size 4 rfl [.bool false,.string dg,.int .i64 ex] _ (R0.out.part HNM.out) Tryz.underlying23 rfl jG ?_)
 go_ret2
 exact ⟨0,false,rfl,Hd (by rw [HG.out];rfl),ae H0.out (af _ _)⟩
theorem uX {s:ByteArray} {m:Nat} (hd:gQ s) (h:s.size+m≤5):(∀ k,k≤s.size→dv (s.data.toList.take k)<100000)∧∀ k,k≤m→dv s.data.toList * 10 ^ k<100000:=by
 have ha:=nR hd
 have hlen:s.data.toList.length=s.size:=by simp
 have h0:dv s.data.toList<10 ^ s.size:=by have:=x0 _ ha;rwa [hlen] at this
 refine ⟨fun k hk=>?_,fun k hk=>?_⟩
 ·have h1:=rM s.data.toList k
  have h2:10 ^ s.size≤10 ^ 5:=Nat.pow_le_pow_right (by omega) (by omega)
  omega
 ·have h1:dv s.data.toList * 10 ^ k<10 ^ s.size * 10 ^ k:=Nat.mul_lt_mul_of_pos_right h0 (Nat.pow_pos (by omega))
  rw [← Nat.pow_add] at h1
  have h2:10 ^ (s.size+k)≤10 ^ 5:=Nat.pow_le_pow_right (by omega) (by omega)
  omega
theorem Ao {d:dL} (hv:gP d):gQ d.digits:=by
 rcases hv with ⟨h,_⟩ | ⟨_,_,h,_⟩
 ·intro i hi
  omega
 ·exact h
set_option maxRecDepth 100000 in
set_option maxHeartbeats 3200000 in
theorem zd (x:ag) (h3:x.op=3) (h2:x.val.kind=2) (hn:x.val.num.neg=false) (he:0≤x.val.num.exp) (hv:gP x.val.num) (h:x.val.num.digits.size+x.val.num.exp≤5) (w:World) (B N:Nat) (cs:List Value) (hx:ag.At w B N x cs):Calls Tryz.prog 142 #[.agg cs.toArray] w (r8 (eq x) w):=by
 obtain ⟨c0,c2,hnm⟩:=fZ hx
 rw [h3] at c0
 rw [h2] at c2
 rw [hn] at hnm
 obtain ⟨m,hm⟩:∃ m:Nat,x.val.num.exp=m:=⟨x.val.num.exp.toNat,by omega⟩
 have hg:=vU (x:=x) hv hn h3 h2 he h
 rw [hm,Int.toNat_natCast] at hg
 rw [hm] at hnm h
 have HNM:=Hd hnm
 have HG:=Hd hg
 have R0:=Hd (aA w cs 34)
 have H0:=Hd (af w (.cells cs.toArray 34))
 have hds:=Ao hv
 clear hx hnm h3 h2 hn hv he hm hg
 generalize eq x=q at *
 generalize x.val.num.digits=dg at *
 have HD:=Hd hds
 have HLT:=Hd (uX (m:=m) hds (by omega))
 clear hds
 have CV:∀ w:World,(convert 9 26 (.string dg)).run Tryz.prog w=.ok (.slice (some ⟨w.heap.size,0,none⟩) dg.size (grownCap w dg.size 0 5)) (Lib.bytesWorld w 5 dg):=fun w=>Lib.run_convert_string_bytes w 9 26 5 dg Tryz.underlying9 Tryz.underlying26 Tryz.underlying5
 go_enter Tryz.func142,Tryz.ntmps142
 go_wp2_with (refine wpList_load_mid rfl 23 _ rfl w.heap.size 4 rfl [.bool false,.string dg,.int .i64 m] _ (R0.out.part HNM.out) Tryz.underlying23 rfl jG ?_)
 obtain ⟨w2,hw2⟩:∃ w2,w2=Lib.bytesWorld ((w.alloc (.cells cs.toArray 34)).alloc (.cells #[.bool false,.string dg,.int .i64 m] 23)) 5 dg:=⟨_,rfl⟩
 rw [← hw2]
 have hsz:((w.alloc (.cells cs.toArray 34)).alloc (.cells #[.bool false,.string dg,.int .i64 m] 23)).heap.size=w.heap.size+1+1:=by rw [World.size_alloc,World.size_alloc]
 have HBC:=Hd (show ∀ k,k<dg.size→w2.cell? ⟨w.heap.size+1+1,k,none⟩=some (.int .u8 (aI dg k)) from fun k hk=>by
  have h:=Lib.bytesWorld_cell ((w.alloc (.cells cs.toArray 34)).alloc (.cells #[.bool false,.string dg,.int .i64 m] 23)) 5 dg k hk
  rw [hsz,vp hk] at h
  rw [hw2]
  exact h)
 have D2:w2.cell? ⟨w.heap.size+1,2,none⟩=some (.int .i64 m):=by
  rw [hw2,Lib.bytesWorld_old _ _ _ _ (by rw [hsz];show w.heap.size+1<_;omega)]
  have h:=aq.new (w.alloc (.cells cs.toArray 34)) 23 [.bool false,.string dg,.int .i64 m]
  rw [World.size_alloc] at h
  exact h.cell (j:=2) rfl
 have H2:=Hd (show Below w.heap.size w w2 by rw [hw2];exact ae (ae H0.out (af _ _)) (qJ _ _ _))
 clear hw2 hsz CV R0 HNM H0
 generalize grownCap _ _ _ _=gc
 go_simp
 go_loop [5,42] (fun n i=>∃ k:Nat,k≤dg.size∧i=.int .i64 k∧n=.int .i64 ((dv (dg.data.toList.take k):Nat):Int)) (fun _ i=>dg.size-(intOf i).toNat)
 case atStart=>exact ⟨0,by omega,rfl,rfl⟩
 case round =>
  obtain ⟨k,hk,rfl,rfl⟩:=hrel
  have hlt9:=HLT.out.1 k hk
  by_cases hlt:k<dg.size
  ·have hb:=HBC.out k hlt
   have hst:=Hd (Ak hlt HD.out)
   obtain ⟨h1,h2⟩:=HD.out k hlt
   generalize hn:dv (dg.data.toList.take k)=n at *
   have HN:=Hd hn
   clear hn
   have hn0:(0:Int)≤(n:Int):=by omega
   go_wp2_with fail
   go_round
   case rel=>exact ⟨k+1,by omega,by go_num,by rw [hst.out];exact xi (by omega)⟩
   case measure=>simp [intOf];omega
  ·obtain rfl:k=dg.size:=by omega
   have e:dg.data.toList.take dg.size=dg.data.toList:=List.take_of_length_le (by simp)
   rw [e] at hlt9
   rw [e]
   clear hlt e
   go_wp2_with fail
   go_simp
   go_loop [5,55] (fun n i=>∃ k:Nat,k≤m∧i=.int .i64 k∧n=.int .i64 ((dv dg.data.toList * 10 ^ k:Nat):Int)) (fun _ i=>m-(intOf i).toNat)
   case atStart=>exact ⟨0,by omega,rfl,by simp⟩
   case round =>
    obtain ⟨k,hk,rfl,rfl⟩:=hrel
    have hlt9:=HLT.out.2 k hk
    by_cases hlt:k<m
    ·have hst:=Hd (show dv dg.data.toList * 10 ^ (k+1)=dv dg.data.toList * 10 ^ k * 10 by rw [Nat.pow_succ,Nat.mul_assoc])
     generalize hn:dv dg.data.toList * 10 ^ k=n at *
     have HN:=Hd hn
     clear hn
     have hn0:(0:Int)≤(n:Int):=by omega
     go_wp2_with fail
     go_round
     case rel=>exact ⟨k+1,by omega,by go_num,by rw [hst.out];exact xi (by omega)⟩
     case measure=>simp [intOf];omega
    ·obtain rfl:k=m:=by omega
     generalize hn:dv dg.data.toList * 10 ^ k=n at *
     have HN:=Hd hn
     clear hn hlt
     have hn0:(0:Int)≤(n:Int):=by omega
     by_cases hle:(n:Int)≤65536
     ·have HZ:=Hd (show q=some (n:Int) by rw [HG.out,if_pos (by omega)])
      go_wp2_with fail
      go_ret2
      exact ⟨n,true,rfl,Hd (by rw [HZ.out];rfl),H2.out⟩
     ·have HZ:=Hd (show q=none by rw [HG.out,if_neg (by omega)])
      go_wp2_with fail
      go_ret2
      exact ⟨n,false,rfl,Hd (by rw [HZ.out];rfl),H2.out⟩
def DW (o:Option (List aL)) (M:Nat) (w:World) (e:Ending) (w':World):Prop:=∃ (s:Value) (l:List aL) (k:Bool),e=.returned (.tuple #[s,.bool k])∧Hid (w'.ownsRow w.heap.size 94 4 s l.length (l.flatMap aL.cells))∧l.length≤M∧Hid (o=if k then some l else none)∧Below w.heap.size w w'
def kG (M:Nat) (g:ag→Option (List aL)) (x:ag):Prop:=∀ (w:World) (B N:Nat) (cs:List Value),N≤1048576→B≤w.heap.size→ag.At w B N x cs→Calls Tryz.prog 97 #[.agg cs.toArray] w (DW (g x) M w)
theorem oA:(Tryz.prog.info? 94).map (fun i=>(i.zero,i.size,i.bytes))=some (some (.agg #[.bool false,.bool false,.string ⟨#[]⟩,.int .i64 0]),4,40):=by kernel_rfl
theorem lL (l:List aL) (s:aL):(l++[s]).flatMap aL.cells=l.flatMap aL.cells++s.cells:=by simp
theorem n8 (s:aL):∀ u∈s.cells,u.oneCell'=true:=by
 intro u hu
 simp [aL.cells] at hu
 rcases hu with rfl | rfl | rfl | rfl<;>rfl
theorem zc {g:ag→Option (List aL)} {x:ag} (h:x.op=1):dO g x=some []:=by unfold dO;rw [if_pos h]
theorem vP {g:ag→Option (List aL)} {x:ag} (h1:x.op≠1) (h5:x.op≠5) (h6:x.op≠6) (h8:x.op≠8):dO g x=none:=by
 unfold dO
 rw [if_neg h1,if_neg (by rintro (h | h | h);exact h5 h;exact h6 h;exact h8 h)]
theorem jf {g:ag→Option (List aL)} {x:ag} (h:x.op=5∨x.op=6∨x.op=8) (hl:0<x.args.length):dO g x=(g x.args[0]).bind fun l=>(iZ x).map fun s=>l++[s]:=by
 unfold dO
 rw [if_neg (by omega),if_pos h,bU hl]
theorem zo {x:ag} (h:x.op=5):iZ x=some ⟨false,false,x.name,0⟩:=by unfold iZ;rw [if_pos h]
theorem zm {x:ag} (h:x.op=8):iZ x=some ⟨true,false,⟨#[]⟩,0⟩:=by unfold iZ;rw [if_neg (by omega),if_pos h]
theorem zn {x:ag} (h:x.op=6) (hl:1<x.args.length):iZ x=(eq x.args[1]).map fun n=>⟨false,true,⟨#[]⟩,n⟩:=by unfold iZ;rw [if_neg (by omega),if_neg (by omega),bU hl]
theorem lM {o:Option (List aL)} {l:List aL} {k:Bool} {s:aL} {q:Option aL} (h:o=if k then some l else none) (hq:q=some s):(o.bind fun l=>q.map fun s=>l++[s])=if k then some (l++[s]) else none:=by
 subst h
 subst hq
 cases k<;>rfl
set_option maxRecDepth 100000 in
set_option maxHeartbeats 1600000 in
theorem CX (M:Nat) (g:ag→Option (List aL)) (x:ag) (h:x.op=1):kG M (dO g) x:=by
 intro w B N cs hN hB hx
 obtain ⟨aa,fa,ac,fc,vs,hh⟩:=hx.has
 have c0:cs[0]?=some (.int .i64 1):=by rw [hh.op,h]
 have H0:=Hd (show Below w.heap.size w ((w.alloc (.cells cs.toArray 34)).alloc (.cells #[.bool false,.bool false,.string ⟨#[]⟩,.int .i64 0] 94)) from ae (af w _) (af _ _))
 have HG:=Hd (zc (g:=g) h)
 clear hx hh h
 go_enter Tryz.func97,Tryz.ntmps97
 go_wp2_with fail
 go_ret2
 exact ⟨_,[],true,rfl,Hd (World.ownsRow_nil _ _ _ _),Nat.zero_le _,Hd (by rw [HG.out];rfl),H0.out⟩
set_option maxRecDepth 100000 in
set_option maxHeartbeats 1600000 in
theorem q9 (M:Nat) (g:ag→Option (List aL)) (x:ag) (h1:x.op≠1) (h5:x.op≠5) (h6:x.op≠6) (h8:x.op≠8):kG M (dO g) x:=by
 intro w B N cs hN hB hx
 obtain ⟨aa,fa,ac,fc,vs,hh⟩:=hx.has
 have c0:=hh.op
 have H0:=Hd (show Below w.heap.size w ((w.alloc (.cells cs.toArray 34)).alloc (.cells #[.bool false,.bool false,.string ⟨#[]⟩,.int .i64 0] 94)) from ae (af w _) (af _ _))
 have HG:=Hd (vP (g:=g) h1 h5 h6 h8)
 clear hx hh
 generalize dO g x=q at *
 generalize x.op=o at *
 have e1:(o==1)=false:=by simpa using h1
 have e5:(o==5)=false:=by simpa using h5
 have e6:(o==6)=false:=by simpa using h6
 have e8:(o==8)=false:=by simpa using h8
 go_enter Tryz.func97,Tryz.ntmps97
 go_wp2_with fail
 go_ret2
 exact ⟨_,[],false,rfl,Hd (World.ownsRow_nil _ _ _ _),Nat.zero_le _,Hd (by rw [HG.out];rfl),H0.out⟩
set_option maxRecDepth 100000 in
set_option maxHeartbeats 6400000 in
theorem CW (M:Nat) (hM:M≤48) (g:ag→Option (List aL)) (x:ag) (h:x.op=5) (hl:0<x.args.length) (hk:kG M g x.args[0]):kG (M+1) (dO g) x:=by
 intro w B N cs hN hB hx
 obtain ⟨i0,hi,hz0,hz1,hz2⟩:=info_parts oA
 have HI:=Hd hi
 have HZ0:=Hd hz0
 have HZ1:=Hd hz1
 have HZ2:=Hd hz2
 obtain ⟨aa,fa,ac,fc,vs,hh⟩:=hx.has
 have c0:cs[0]?=some (.int .i64 5):=by rw [hh.op,h]
 have c1:=hh.name
 have c15:=hh.args
 have hal:x.args.length≤N:=hh.own.2.2.1
 have HK:=Hd hk
 have HG:=Hd (jf (g:=g) (x:=x) (by omega) hl)
 have HQ:=Hd (zo h)
 obtain ⟨b,o,rfl,hb,hget⟩:=hh.atArgs.get (by intro h;simp [h] at hl)
 obtain ⟨cs1,h1,h2⟩:=hget 0 hl
 rw [Nat.zero_mul,Nat.add_zero] at h1
 obtain ⟨nm,hnm⟩:∃ nm,nm=x.name:=⟨_,rfl⟩
 rw [← hnm] at c1 HQ
 clear hnm
 have hl1:=Hd (show (Tryz.prog.info? 34).map (·.size)=some cs1.length by rw [h2.len];exact ay)
 have R1:=aq.new (w.alloc (.cells cs.toArray 34)) 94 [.bool false,.bool false,.string nm,.int .i64 0]
 rw [World.size_alloc] at R1
 obtain ⟨w2,hw2⟩:∃ w2,w2=(w.alloc (.cells cs.toArray 34)).alloc (.cells #[.bool false,.bool false,.string nm,.int .i64 0] 94):=⟨_,rfl⟩
 have RS:=Hd (show aq 94 w2 (w.heap.size+1) [.bool false,.bool false,.string nm,.int .i64 0] by rw [hw2];exact R1)
 have H2:=Hd (show Below w.heap.size w w2 by rw [hw2];exact ae (af w _) (af _ _))
 have HR:=Hd (h1.below (H2.out.mono hB) hb)
 have HX:=Hd (h2.below (H2.out.mono hB))
 have HW:=Hd hw2
 clear hx hh h hk hget h1 h2 R1 hw2 hi hz0 hz1 hz2
 go_enter Tryz.func97,Tryz.ntmps97
 go_wp2_with (refine wpList_load_mid rfl 34 _ rfl b o rfl cs1 _ (by rw [← HW.out];exact HR.out.range) Tryz.underlying34 rfl hl1.out ?_)
 rw [← HW.out]
 refine (HK.out w2 B N cs1 hN (Nat.le_trans hB H2.out.size) HX.out).mono ?_
 rintro e w3 ⟨sv,l,k,rfl,HO,hlM,HE,hb3⟩
 have H3:=Hd (ae H2.out hb3)
 have RS3:=Hd (RS.out.then hb3)
 have hs3:w2.heap.size≤w3.heap.size:=hb3.size
 have hs2:=Hd H2.out.size
 clear hb3
 go_wp2_with (first
  | (refine wpList_load_mid rfl 94 _ rfl (w.heap.size+1) 0 rfl [.bool false,.bool false,.string nm,.int .i64 0] _ RS3.out.range Tryz.underlying94 rfl cP ?_)
  | (at_builtin;refine wpList_append_own _ rfl _ _ 56 rfl w2.heap.size 94 i0 (.agg #[.bool false,.bool false,.string ⟨#[]⟩,.int .i64 0]) 4 40 Tryz.underlying56 HI.out HZ0.out HZ1.out HZ2.out rfl (by decide) sv l.length (l.flatMap aL.cells) rfl (HO.out.alloc _) ⟨w3.heap.size,0,none⟩ 1 1 [.bool false,.bool false,.string nm,.int .i64 0] rfl rfl ?c1 ?c2 ?c3 ?c4 ?c5 ?_))
 case c1=>exact (dh w3 [.bool false,.bool false,.string nm,.int .i64 0] 94 1).2 _ rfl
 case c2=>exact n8 ⟨false,false,nm,0⟩
 case c3=>unfold maxLen;omega
 case c4=>omega
 case c5=>rw [World.size_alloc];omega
 intro v' w4 hown4 hgrow _
 have HO4:=Hd (show w4.ownsRow w.heap.size 94 4 v' (l++[(⟨false,false,nm,0⟩:aL)]).length ((l++[(⟨false,false,nm,0⟩:aL)]).flatMap aL.cells) by
  rw [lL,List.length_append]
  exact hJ hown4 hs2.out)
 have H4:=Hd (show Below w.heap.size w w4 from (ae H3.out (af w3 _)).grown hgrow (by have:=H3.out.size;rw [World.size_alloc];omega) (fun q hq=>by have:=(HO.out.lt q hq).1;have:=hs2.out;omega))
 clear hown4 hgrow
 go_wp2_with fail
 go_ret2
 exact ⟨_,_,k,rfl,HO4,by simp;omega,Hd (by rw [HG.out];exact lM HE.out HQ.out),H4.out⟩
set_option maxRecDepth 100000 in
set_option maxHeartbeats 6400000 in
theorem CT (M:Nat) (hM:M≤48) (g:ag→Option (List aL)) (x:ag) (h:x.op=8) (hl:0<x.args.length) (hk:kG M g x.args[0]):kG (M+1) (dO g) x:=by
 intro w B N cs hN hB hx
 obtain ⟨i0,hi,hz0,hz1,hz2⟩:=info_parts oA
 have HI:=Hd hi
 have HZ0:=Hd hz0
 have HZ1:=Hd hz1
 have HZ2:=Hd hz2
 obtain ⟨aa,fa,ac,fc,vs,hh⟩:=hx.has
 have c0:cs[0]?=some (.int .i64 8):=by rw [hh.op,h]
 have c1:=hh.name
 have c15:=hh.args
 have hal:x.args.length≤N:=hh.own.2.2.1
 have HK:=Hd hk
 have HG:=Hd (jf (g:=g) (x:=x) (by omega) hl)
 have HQ:=Hd (zm h)
 obtain ⟨b,o,rfl,hb,hget⟩:=hh.atArgs.get (by intro h;simp [h] at hl)
 obtain ⟨cs1,h1,h2⟩:=hget 0 hl
 rw [Nat.zero_mul,Nat.add_zero] at h1
 have hl1:=Hd (show (Tryz.prog.info? 34).map (·.size)=some cs1.length by rw [h2.len];exact ay)
 have R1:=aq.new (w.alloc (.cells cs.toArray 34)) 94 [.bool true,.bool false,.string ⟨#[]⟩,.int .i64 0]
 rw [World.size_alloc] at R1
 obtain ⟨w2,hw2⟩:∃ w2,w2=(w.alloc (.cells cs.toArray 34)).alloc (.cells #[.bool true,.bool false,.string ⟨#[]⟩,.int .i64 0] 94):=⟨_,rfl⟩
 have RS:=Hd (show aq 94 w2 (w.heap.size+1) [.bool true,.bool false,.string ⟨#[]⟩,.int .i64 0] by rw [hw2];exact R1)
 have H2:=Hd (show Below w.heap.size w w2 by rw [hw2];exact ae (af w _) (af _ _))
 have HR:=Hd (h1.below (H2.out.mono hB) hb)
 have HX:=Hd (h2.below (H2.out.mono hB))
 have HW:=Hd hw2
 clear hx hh h hk hget h1 h2 R1 hw2 hi hz0 hz1 hz2
 go_enter Tryz.func97,Tryz.ntmps97
 go_wp2_with (refine wpList_load_mid rfl 34 _ rfl b o rfl cs1 _ (by rw [← HW.out];exact HR.out.range) Tryz.underlying34 rfl hl1.out ?_)
 rw [← HW.out]
 refine (HK.out w2 B N cs1 hN (Nat.le_trans hB H2.out.size) HX.out).mono ?_
 rintro e w3 ⟨sv,l,k,rfl,HO,hlM,HE,hb3⟩
 have H3:=Hd (ae H2.out hb3)
 have RS3:=Hd (RS.out.then hb3)
 have hs3:w2.heap.size≤w3.heap.size:=hb3.size
 have hs2:=Hd H2.out.size
 clear hb3
 go_wp2_with (first
  | (refine wpList_load_mid rfl 94 _ rfl (w.heap.size+1) 0 rfl [.bool true,.bool false,.string ⟨#[]⟩,.int .i64 0] _ RS3.out.range Tryz.underlying94 rfl cP ?_)
  | (at_builtin;refine wpList_append_own _ rfl _ _ 56 rfl w2.heap.size 94 i0 (.agg #[.bool false,.bool false,.string ⟨#[]⟩,.int .i64 0]) 4 40 Tryz.underlying56 HI.out HZ0.out HZ1.out HZ2.out rfl (by decide) sv l.length (l.flatMap aL.cells) rfl (HO.out.alloc _) ⟨w3.heap.size,0,none⟩ 1 1 [.bool true,.bool false,.string ⟨#[]⟩,.int .i64 0] rfl rfl ?c1 ?c2 ?c3 ?c4 ?c5 ?_))
 case c1=>exact (dh w3 [.bool true,.bool false,.string ⟨#[]⟩,.int .i64 0] 94 1).2 _ rfl
 case c2=>exact n8 ⟨true,false,⟨#[]⟩,0⟩
 case c3=>unfold maxLen;omega
 case c4=>omega
 case c5=>rw [World.size_alloc];omega
 intro v' w4 hown4 hgrow _
 have HO4:=Hd (show w4.ownsRow w.heap.size 94 4 v' (l++[(⟨true,false,⟨#[]⟩,0⟩:aL)]).length ((l++[(⟨true,false,⟨#[]⟩,0⟩:aL)]).flatMap aL.cells) by
  rw [lL,List.length_append]
  exact hJ hown4 hs2.out)
 have H4:=Hd (show Below w.heap.size w w4 from (ae H3.out (af w3 _)).grown hgrow (by have:=H3.out.size;rw [World.size_alloc];omega) (fun q hq=>by have:=(HO.out.lt q hq).1;have:=hs2.out;omega))
 clear hown4 hgrow
 go_wp2_with fail
 go_ret2
 exact ⟨_,_,k,rfl,HO4,by simp;omega,Hd (by rw [HG.out];exact lM HE.out HQ.out),H4.out⟩
theorem uh {o:Option (List aL)}:(o.bind fun l=>(none:Option aL).map fun s=>l++[s])=none:=by cases o<;>rfl
theorem zb (n:Int) (k:ByteArray) (c:Bool):∀ v∈([.bool c,.string k,.int .i64 n]:List Value),v.oneCell'=true:=by
 intro v hv
 simp at hv
 rcases hv with rfl | rfl | rfl<;>rfl
set_option maxRecDepth 100000 in
set_option maxHeartbeats 6400000 in
theorem CU (M:Nat) (hM:M≤48) (g:ag→Option (List aL)) (x:ag) (h:x.op=6) (hl:1<x.args.length) (hk:kG M g x.args[0])
 (hs:∀ (w:World) (B N:Nat) (cs:List Value),ag.At w B N x.args[1] cs→Calls Tryz.prog 142 #[.agg cs.toArray] w (r8 (eq x.args[1]) w)):kG (M+1) (dO g) x:=by
 intro w B N cs hN hB hx
 obtain ⟨i0,hi,hz0,hz1,hz2⟩:=info_parts oA
 have HI:=Hd hi
 have HZ0:=Hd hz0
 have HZ1:=Hd hz1
 have HZ2:=Hd hz2
 obtain ⟨aa,fa,ac,fc,vs,hh⟩:=hx.has
 have c0:cs[0]?=some (.int .i64 6):=by rw [hh.op,h]
 have c15:=hh.args
 have hal:x.args.length≤N:=hh.own.2.2.1
 have HK:=Hd hk
 have HS:=Hd hs
 have HG:=Hd (jf (g:=g) (x:=x) (by omega) (by omega))
 have HQ:=Hd (zn h hl)
 obtain ⟨b,o,rfl,hb,hget⟩:=hh.atArgs.get (by intro h;simp [h] at hl)
 obtain ⟨cs1,h1,h2⟩:=hget 0 (by omega)
 rw [Nat.zero_mul,Nat.add_zero] at h1
 obtain ⟨cs2,k1,k2⟩:=hget 1 hl
 rw [Nat.one_mul] at k1
 have hl1:=Hd (show (Tryz.prog.info? 34).map (·.size)=some cs1.length by rw [h2.len];exact ay)
 have hl2:=Hd (show (Tryz.prog.info? 34).map (·.size)=some cs2.length by rw [k2.len];exact ay)
 have B1:Below w.heap.size w ((w.alloc (.cells cs.toArray 34)).alloc (.cells #[.bool false,.bool false,.string ⟨#[]⟩,.int .i64 0] 94)):=ae (af w _) (af _ _)
 have R0:=(aq.new w 34 cs).alloc (.cells #[.bool false,.bool false,.string ⟨#[]⟩,.int .i64 0] 94)
 have R1:=aq.new (w.alloc (.cells cs.toArray 34)) 94 [.bool false,.bool false,.string ⟨#[]⟩,.int .i64 0]
 rw [World.size_alloc] at R1
 obtain ⟨w1,hw1⟩:∃ w1,w1=(w.alloc (.cells cs.toArray 34)).alloc (.cells #[.bool false,.bool false,.string ⟨#[]⟩,.int .i64 0] 94):=⟨_,rfl⟩
 rw [show (w.alloc (.cells cs.toArray 34)).alloc (.cells [.bool false,.bool false,.string ⟨#[]⟩,.int .i64 0].toArray 94)=w1 from hw1.symm] at R1
 rw [← hw1] at R0 B1
 have RS:=Hd R1
 have RB:=Hd R0
 have H1:=Hd B1
 have HR2:=Hd (k1.below (B1.mono hB) hb)
 have HX2:=Hd (k2.below (B1.mono hB))
 have HR:=Hd (h1.below (B1.mono hB) hb)
 have HX:=Hd (h2.below (B1.mono hB))
 have HW:=Hd hw1
 have HBb:=Hd hb
 clear hx hh h hk hget h1 h2 R0 R1 B1 hw1 hi hz0 hz1 hz2 k1 k2 hs hb
 go_enter Tryz.func97,Tryz.ntmps97
 go_wp2_with (refine wpList_load_mid rfl 34 _ rfl b (o+17) rfl cs2 _ (by rw [← HW.out];exact HR2.out.range) Tryz.underlying34 rfl hl2.out ?_)
 rw [← HW.out]
 refine (HS.out w1 B N cs2 HX2.out).mono ?_
 rintro e w2 ⟨n,k6,rfl,HE6,hb2⟩
 have H2:=Hd (ae H1.out hb2)
 have RS2:=Hd (RS.out.then hb2)
 have RB2:=Hd (RB.out.then hb2)
 have HR3:=Hd (HR.out.below (hb2.mono (Nat.le_trans hB H1.out.size)) HBb.out)
 have HX3:=Hd (HX.out.below (hb2.mono (Nat.le_trans hB H1.out.size)))
 have d15:=RB2.out.cell c15
 clear hb2 HW
 cases k6
 ·go_wp2_with fail
  go_ret2
  exact ⟨_,[],false,rfl,Hd (World.ownsRow_nil _ _ _ _),Nat.zero_le _,Hd (by rw [HG.out,HQ.out,HE6.out];exact uh),H2.out⟩
 ·have HQ2:=Hd (show iZ x=some ⟨false,true,⟨#[]⟩,n⟩ by rw [HQ.out,HE6.out];rfl)
  obtain ⟨w3,hw3⟩:∃ w3,w3=w2.setRow (w.heap.size+1) #[.bool false,.bool true,.string ⟨#[]⟩,.int .i64 n]:=⟨_,rfl⟩
  have RS3:=Hd (show aq 94 w3 (w.heap.size+1) [.bool false,.bool true,.string ⟨#[]⟩,.int .i64 n] by rw [hw3];exact RS2.out.setRow _)
  have B3:Below (w.heap.size+1) w2 w3:=by rw [hw3];exact below_setRow (Below.refl _ _) (Nat.le_refl _) _
  have H3:=Hd (H2.out.trans (B3.mono (by omega)))
  have HR4:=Hd (HR3.out.below (B3.mono (by omega)) HBb.out)
  have HX4:=Hd (HX3.out.below (B3.mono (by omega)))
  have HW:=Hd hw3
  have e15:(w2.setRow (w.heap.size+1) #[.bool false,.bool true,.string ⟨#[]⟩,.int .i64 n]).cell? ⟨w.heap.size,15,none⟩=some (.slice (some ⟨b,o,none⟩) x.args.length ac):=by
   rw [cell_setRow_other _ _ _ _ (show w.heap.size≠w.heap.size+1 by omega)]
   exact RB2.out.cell c15
  clear hw3 B3
  go_wp2_with (first
   | (refine aD rfl 92 _ _ rfl (w.heap.size+1) 1 [.bool true,.string ⟨#[]⟩,.int .i64 n] rfl rfl 94 [.bool false,.bool false,.string ⟨#[]⟩,.int .i64 0] [.bool false,.bool true,.string ⟨#[]⟩,.int .i64 n] RS2.out zj rfl (Nat.le_refl 4) (zb _ _ _) ?_)
   | (refine wpList_load_mid rfl 34 _ rfl b o rfl cs1 _ (by rw [← HW.out];exact HR4.out.range) Tryz.underlying34 rfl hl1.out ?_))
  rw [← HW.out]
  refine (HK.out w3 B N cs1 hN (Nat.le_trans hB H3.out.size) HX4.out).mono ?_
  rintro e w4 ⟨sv,l,k,rfl,HO,hlM,HE,hb4⟩
  have H4:=Hd (ae H3.out hb4)
  have RS4:=Hd (RS3.out.then hb4)
  have hs4:w3.heap.size≤w4.heap.size:=hb4.size
  have hs3:=Hd H3.out.size
  clear hb4 e15 d15
  go_wp2_with (first
   | (refine wpList_load_mid rfl 94 _ rfl (w.heap.size+1) 0 rfl [.bool false,.bool true,.string ⟨#[]⟩,.int .i64 n] _ RS4.out.range Tryz.underlying94 rfl cP ?_)
   | (at_builtin;refine wpList_append_own _ rfl _ _ 56 rfl w3.heap.size 94 i0 (.agg #[.bool false,.bool false,.string ⟨#[]⟩,.int .i64 0]) 4 40 Tryz.underlying56 HI.out HZ0.out HZ1.out HZ2.out rfl (by decide) sv l.length (l.flatMap aL.cells) rfl (HO.out.alloc _) ⟨w4.heap.size,0,none⟩ 1 1 [.bool false,.bool true,.string ⟨#[]⟩,.int .i64 n] rfl rfl ?c1 ?c2 ?c3 ?c4 ?c5 ?_))
  case c1=>exact (dh w4 [.bool false,.bool true,.string ⟨#[]⟩,.int .i64 n] 94 1).2 _ rfl
  case c2=>exact n8 ⟨false,true,⟨#[]⟩,n⟩
  case c3=>unfold maxLen;omega
  case c4=>omega
  case c5=>rw [World.size_alloc];omega
  intro v' w5 hown5 hgrow _
  have HO5:=Hd (show w5.ownsRow w.heap.size 94 4 v' (l++[(⟨false,true,⟨#[]⟩,n⟩:aL)]).length ((l++[(⟨false,true,⟨#[]⟩,n⟩:aL)]).flatMap aL.cells) by
   rw [lL,List.length_append]
   exact hJ hown5 hs3.out)
  have H5:=Hd (show Below w.heap.size w w5 from (ae H4.out (af w4 _)).grown hgrow (by have:=H4.out.size;rw [World.size_alloc];omega) (fun q hq=>by have:=(HO.out.lt q hq).1;have:=hs3.out;omega))
  clear hown5 hgrow
  go_wp2_with fail
  go_ret2
  exact ⟨_,_,k,rfl,HO5,by simp;omega,Hd (by rw [HG.out];exact lM HE.out HQ2.out),H5.out⟩
theorem zh (x:ag) (h:x.op=30∨wf1 x) (w:World) (B N:Nat) (cs:List Value) (hx:ag.At w B N x cs):Calls Tryz.prog 142 #[.agg cs.toArray] w (r8 (eq x) w):=by
 by_cases h3:x.op=3
 ·have hw:=h.resolve_left (by omega)
  obtain ⟨hv,hn,_⟩:=Bh hw
  by_cases h2:x.val.kind=2
  ·by_cases he:x.val.num.exp<0
   ·exact zf x h3 h2 hn he w B N cs hx
   ·by_cases hb:5<x.val.num.digits.size+x.val.num.exp
    ·exact zg x h3 h2 hn (by omega) hv hb w B N cs hx
    ·exact zd x h3 h2 hn (by omega) hv (by omega) w B N cs hx
  ·exact vS x h3 h2 w B N cs hx
 ·exact Bp x h3 w B N cs hx
theorem vZ (m M:Nat) {x:ag} (h:x.op=30):kG M (dZ m) x:=by
 cases m with
 | zero=>exact q9 M _ x (by omega) (by omega) (by omega) (by omega)
 | succ m=>exact q9 M _ x (by omega) (by omega) (by omega) (by omega)
theorem pm (M:Nat) (hM:M≤48) (g:ag→Option (List aL)) (x:ag) (h1:wf1 x) (hk:∀ k (h:k<x.args.length),kG M g x.args[k]∧(x.args[k].op=30∨wf1 x.args[k])):kG (M+1) (dO g) x:=by
 by_cases h0:x.op=1
 ·exact CX (M+1) g x h0
 by_cases h5:x.op=5
 ·have hl:=eE h1 (n:=1) (by rw [h5];decide)
  exact CW M hM g x h5 (by omega) (hk 0 (by omega)).1
 by_cases h8:x.op=8
 ·have hl:=eE h1 (n:=1) (by rw [h8];decide)
  exact CT M hM g x h8 (by omega) (hk 0 (by omega)).1
 by_cases h6:x.op=6
 ·have hl:=eE h1 (n:=2) (by rw [h6];decide)
  exact CU M hM g x h6 (by omega) (hk 0 (by omega)).1 (zh _ (hk 1 (by omega)).2)
 exact q9 (M+1) g x h0 h5 h6 h8
theorem zl:∀ (m:Nat) (x:ag),m≤48→wfE m x→kG (m+1) (dZ m) x:=by
 intro m
 induction m with
 | zero =>
   intro x _ h
   exact pm 0 (by omega) _ x (gM h) (fun k hk=>by rw [h.2.1] at hk;simp at hk)
 | succ m ih =>
   intro x hm h
   refine pm (m+1) hm _ x (gM h) (fun k hk=>?_)
   rcases h.2.1 _ (List.getElem_mem hk) with h1 | h1
   ·exact ⟨vZ m (m+1) h1,.inl h1⟩
   ·exact ⟨ih _ (by omega) h1,.inr (gM h1)⟩
def Ba (o:Option (List aL)) (w:World) (e:Ending) (w':World):Prop:=∃ (s:Value) (l:List aL) (k:Bool),e=.returned (.tuple #[s,.bool k])∧Hid (w'.ownsRow w.heap.size 94 4 s l.length (l.flatMap aL.cells))∧Hid (o=if k then some l else none)∧Below w.heap.size w w'
set_option maxRecDepth 100000 in
set_option maxHeartbeats 1600000 in
theorem uf (m:Nat) (hm:m≤48) (x:ag) (h:x.op=30∨wfE m x) (w:World) (B N:Nat) (cs:List Value) (hN:N≤1048576) (hB:B≤w.heap.size) (hx:ag.At w B N x cs):Calls Tryz.prog 50 #[.agg cs.toArray] w (Ba (cQ (dZ m x)) w):=by
 have HK:=Hd (show kG (m+1) (dZ m) x from h.elim (fun h=>vZ m (m+1) h) (fun h=>zl m x hm h))
 have H0:=Hd (af w (.cells cs.toArray 34))
 have HX:=Hd (hx.below ((af w (.cells cs.toArray 34)).mono hB))
 have HR:=Hd (aA w cs 34).range
 have hl1:=Hd (show (Tryz.prog.info? 34).map (·.size)=some cs.length by rw [hx.len];exact ay)
 clear hx h
 go_enter Tryz.func50,Tryz.ntmps50
 go_wp2_with (refine wpList_load_mid rfl 34 _ rfl w.heap.size 0 rfl cs _ HR.out Tryz.underlying34 rfl hl1.out ?_)
 refine (HK.out _ B N cs hN (Nat.le_trans hB H0.out.size) HX.out).mono ?_
 rintro e w1 ⟨sv,l,k,rfl,HO,hlM,HE,hb1⟩
 have H1:=Hd (ae H0.out hb1)
 obtain ⟨ad,cp,rfl⟩:=di HO.out
 have HO1:=Hd (hJ HO.out H0.out.size)
 have hko:k=false→cQ (dZ m x)=none:=fun h=>by rw [HE.out,h];rfl
 have hk1:k=true→cQ (dZ m x)=if 1≤l.length∧l.length≤48 then some l else none:=fun h=>by rw [HE.out,h];rfl
 generalize hn:l.length=n at *
 have HN:=Hd hn
 clear hb1 hn HO HE HK
 cases k
 ·have HZ:=Hd (hko rfl)
  clear hko hk1
  go_wp2_with fail
  go_ret2
  exact ⟨_,l,false,rfl,Hd (by rw [HN.out];exact HO1.out),Hd (by rw [HZ.out];rfl),H1.out⟩
 ·have hq:=hk1 rfl
  clear hko hk1
  by_cases h1:(1:Int)≤(n:Int)
  ·by_cases h2:(n:Int)≤48
   ·have HZ:=Hd (show cQ (dZ m x)=some l by rw [hq,if_pos ⟨by omega,by omega⟩])
    clear hq
    go_wp2_with fail
    go_ret2
    exact ⟨_,l,true,rfl,Hd (by rw [HN.out];exact HO1.out),Hd (by rw [HZ.out];rfl),H1.out⟩
   ·have HZ:=Hd (show cQ (dZ m x)=none by rw [hq,if_neg (fun g=>by omega)])
    clear hq
    go_wp2_with fail
    go_ret2
    exact ⟨_,l,decide ((n:Int)≤48),rfl,Hd (by rw [HN.out];exact HO1.out),Hd (by rw [HZ.out,decide_eq_false (Int.not_le.2 h2)];rfl),H1.out⟩
  ·have HZ:=Hd (show cQ (dZ m x)=none by rw [hq,if_neg (fun g=>by omega)])
   clear hq
   go_wp2_with fail
   go_ret2
   exact ⟨_,l,false,rfl,Hd (by rw [HN.out];exact HO1.out),Hd (by rw [HZ.out];rfl),H1.out⟩
end Go.Proofs.YtiefeajappjnbaaGreatDoor

/- What both sides' Plan want of trees: joining, depths (the plain part of Rpl43). -/
namespace Go.Proofs.YtiefeajappjnbaaGreatDoor
open Go.RowKit
theorem Bj:∀ (m:Nat) (e:ag),wfE m e→wfE (m+1) e:=by
 intro m
 induction m with
 | zero=>intro e h;exact ⟨h.1,by rw [h.2.1];simp,by rw [h.2.2];simp⟩
 | succ m ih=>intro e h;exact ⟨h.1,fun a ha=>(h.2.1 a ha).imp id (ih a),fun f hf=>(h.2.2 f hf).imp id (ih f.body)⟩
theorem Bk {m n:Nat} (h:m≤n) {e:ag} (hw:wfE m e):wfE n e:=by
 induction h with
 | refl=>exact hw
 | step _ ih=>exact Bj _ e ih
theorem gS {e:ag} (h:wfE 47 e) {k:Nat} (hk:k<e.args.length):e.args[k].op=30∨wfE 47 e.args[k]:=by
 rcases vG h hk with h1 | ⟨m,hm,h1⟩
 ·exact .inl h1
 ·exact .inr (Bk (by omega) h1)
theorem lg:(Tryz.prog.info? 61).map (·.size)=some 18:=by kernel_rfl
end Go.Proofs.YtiefeajappjnbaaGreatDoor
