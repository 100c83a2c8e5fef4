/- What is found by its name: the innermost function in scope (module.scope.find, datakitref38.scope.local), a program's function (datakitref38.function). -/
import Derived.Test.YtiefeajappjnbaaGreatDoorGA
import Derived.Test.YtiefeajappjnbaaGreatDoorGR
import Derived.Test.YtiefeajappjnbaaGreatDoorGI
namespace Go.Proofs.YtiefeajappjnbaaGreatDoor
open Go.RowKit
def DJ (gs:List (ByteArray×Int)) (s:ByteArray) (w:World) (e:Ending) (w':World):Prop:=∃ (n:Int) (b:Bool),e=.returned (.tuple #[.int .i64 n,.bool b])∧ci gs s=(if b then n else -1)∧(b=true→∃ g∈gs,g.1.toList=s.toList∧g.2=n)∧Below w.heap.size w w'
set_option maxRecDepth 100000 in
set_option maxHeartbeats 1600000 in
theorem Cg (d:ScD) (s:ByteArray) (cs:List Value) (w:World) (lo B C:Nat) (hC:C≤268435456) (hB:B≤w.heap.size) (h:ScD.At w lo B C d cs) :
 Calls Tryz.prog 213 #[.agg cs.toArray,.string s] w (DJ d.gs s w):=by
 obtain ⟨va,la,ga,vc,lc,gc,rfl,_,_,hg,_,_,k3⟩:=h
 have HG:=Hd hg
 have hgl:d.gs.length≤268435456:=by omega
 have B0:=Hd (kY.start w [.slice va d.vs.length vc,.slice la d.ls.length lc,.slice ga d.gs.length gc] 147)
 have e2:=B0.out.row.get0 (j:=2) (v:=.slice ga d.gs.length gc) rfl
 clear hg k3
 go_enter Tryz.func213,Tryz.ntmps213
 go_wp2_with fail
 go_simp
 go_loopw [6] (fun i wr=>∃ k:Nat,k≤d.gs.length∧i=.int .i64 ((k:Int)-1)∧Hid (ci d.gs s=ci (d.gs.take k) s)∧Hid (wr=w.alloc (.cells #[.slice va d.vs.length vc,.slice la d.ls.length lc,.slice ga d.gs.length gc] 147))) (fun i _=>(intOf i+1).toNat)
 case atStart=>exact ⟨d.gs.length,by omega,rfl,Hd (by rw [List.take_length]),Hd rfl⟩
 case round =>
  obtain ⟨k,hk,rfl,HF,HW⟩:=hrel
  obtain rfl:=HW.out
  by_cases hk0:k=0
  ·subst hk0
   go_wp2_with fail
   go_ret2
   exact ⟨0,false,rfl,by rw [HF.out];rfl,fun h=>absurd h (by decide),B0.out.low⟩
  ·obtain ⟨b,rfl,_,hb,hget⟩:=HG.out.get (by intro h;rw [h] at hk;simp at hk;omega)
   have hlt:k-1<d.gs.length:=by omega
   have q0:=(B0.out.low.cell (p:=⟨b,(k-1) * 2,none⟩) (show b<w.heap.size by omega)).trans (hget (k-1) hlt).1
   have q1:=(B0.out.low.cell (p:=⟨b,(k-1) * 2+1,none⟩) (show b<w.heap.size by omega)).trans (hget (k-1) hlt).2
   have hk1:(0:Int)≤(k:Int)-1:=by omega
   have hk2:((k:Int)-1).toNat=k-1:=by omega
   have hk3:(k:Int)-1<(d.gs.length:Int):=by omega
   have HST:=Hd (show ci (d.gs.take k) s=if d.gs[k-1].1.toList==s.toList then d.gs[k-1].2 else ci (d.gs.take (k-1)) s by
    have:=mg d.gs s hlt
    rwa [show k-1+1=k by omega] at this)
   clear hget
   cases he:(d.gs[k-1].1.toList==s.toList)
   ·have HN:=Hd (show ci d.gs s=ci (d.gs.take (k-1)) s by rw [HF.out,HST.out,he];rfl)
    go_wp2_with fail
    go_roundw
    case rel=>exact ⟨k-1,by omega,by congr 1;omega,HN,Hd trivial⟩
    case measure=>simp [intOf];omega
   ·have HN:=Hd (show ci d.gs s=d.gs[k-1].2 by rw [HF.out,HST.out,he];rfl)
    have HE:=Hd he
    go_wp2_with fail
    go_ret2
    exact ⟨_,true,rfl,HN.out,fun _=>⟨_,List.getElem_mem hlt,by simpa using HE.out,rfl⟩,B0.out.low⟩
def DI (gs:List (ByteArray×Int)) (s:ByteArray) (w:World) (e:Ending) (w':World):Prop:=e=.returned (.int .i64 (ci gs s))∧Below w.heap.size w w'
set_option maxRecDepth 100000 in
set_option maxHeartbeats 1600000 in
theorem zM (d:ScD) (s:ByteArray) (cs:List Value) (w:World) (lo B C:Nat) (hC:C≤536870912) (hB:B≤w.heap.size) (h:ScD.At w lo B C d cs) :
 Calls Tryz.prog 171 #[.agg cs.toArray,.string s] w (DI d.gs s w):=by
 obtain ⟨va,la,ga,vc,lc,gc,rfl,_,_,hg,_,_,k3⟩:=h
 have HG:=Hd hg
 have hgl:d.gs.length≤536870912:=by omega
 have B0:=Hd (kY.start w [.slice va d.vs.length vc,.slice la d.ls.length lc,.slice ga d.gs.length gc] 134)
 have e2:=B0.out.row.get0 (j:=2) (v:=.slice ga d.gs.length gc) rfl
 clear hg k3
 go_enter Tryz.func171,Tryz.ntmps171
 go_wp2_with fail
 go_simp
 go_loopw [5] (fun i wr=>∃ k:Nat,k≤d.gs.length∧i=.int .i64 ((k:Int)-1)∧Hid (ci d.gs s=ci (d.gs.take k) s)∧Hid (wr=w.alloc (.cells #[.slice va d.vs.length vc,.slice la d.ls.length lc,.slice ga d.gs.length gc] 134))) (fun i _=>(intOf i+1).toNat)
 case atStart=>exact ⟨d.gs.length,by omega,rfl,Hd (by rw [List.take_length]),Hd rfl⟩
 case round =>
  obtain ⟨k,hk,rfl,HF,HW⟩:=hrel
  obtain rfl:=HW.out
  by_cases hk0:k=0
  ·subst hk0
   go_wp2_with fail
   go_ret
   exact ⟨by rw [HF.out];rfl,B0.out.low⟩
  ·obtain ⟨b,rfl,_,hb,hget⟩:=HG.out.get (by intro h;rw [h] at hk;simp at hk;omega)
   have hlt:k-1<d.gs.length:=by omega
   have q0:=(B0.out.low.cell (p:=⟨b,(k-1) * 2,none⟩) (show b<w.heap.size by omega)).trans (hget (k-1) hlt).1
   have q1:=(B0.out.low.cell (p:=⟨b,(k-1) * 2+1,none⟩) (show b<w.heap.size by omega)).trans (hget (k-1) hlt).2
   have hk1:(0:Int)≤(k:Int)-1:=by omega
   have hk2:((k:Int)-1).toNat=k-1:=by omega
   have hk3:(k:Int)-1<(d.gs.length:Int):=by omega
   have HST:=Hd (show ci (d.gs.take k) s=if d.gs[k-1].1.toList==s.toList then d.gs[k-1].2 else ci (d.gs.take (k-1)) s by
    have:=mg d.gs s hlt
    rwa [show k-1+1=k by omega] at this)
   clear hget
   cases he:(d.gs[k-1].1.toList==s.toList)
   ·have HN:=Hd (show ci d.gs s=ci (d.gs.take (k-1)) s by rw [HF.out,HST.out,he];rfl)
    go_wp2_with fail
    go_roundw
    case rel=>exact ⟨k-1,by omega,by congr 1;omega,HN,Hd trivial⟩
    case measure=>simp [intOf];omega
   ·have HN:=Hd (show ci d.gs s=d.gs[k-1].2 by rw [HF.out,HST.out,he];rfl)
    go_wp2_with fail
    go_ret
    exact ⟨by rw [HN.out];rfl,B0.out.low⟩
def fQ (l:List al) (s:ByteArray):Int:=match l.findIdx? (fun f=>f.name.toList==s.toList) with | some i=>(i:Int) | none=>-1
theorem xQ {l:List al} {s:ByteArray} {k:Nat} (hk:k<l.length) (h:(l[k].name.toList==s.toList)=true) (hn:∀ j (hj:j<k),(l[j].name.toList==s.toList)=false):fQ l s=k:=by
 unfold fQ
 have:l.findIdx? (fun f=>f.name.toList==s.toList)=some k:=List.findIdx?_eq_some_iff_getElem.2 ⟨hk,h,fun j hj=>by rw [hn j hj];decide⟩
 rw [this]
theorem uP {l:List al} {s:ByteArray} (hn:∀ j (hj:j<l.length),(l[j].name.toList==s.toList)=false):fQ l s=-1:=by
 unfold fQ
 have:l.findIdx? (fun f=>f.name.toList==s.toList)=none:=List.findIdx?_eq_none_iff.2 fun f hf=>by
  obtain ⟨j,hj,rfl⟩:=List.getElem_of_mem hf
  exact hn j hj
 rw [this]
theorem mf (l:List al) (s:ByteArray):-1≤fQ l s∧fQ l s<l.length:=by
 unfold fQ
 split
 ·rename_i i hi
  obtain ⟨h,_⟩:=List.findIdx?_eq_some_iff_getElem.1 hi
  exact ⟨by omega,by omega⟩
 ·exact ⟨by omega,by omega⟩
def Ee (l:List al) (s:ByteArray) (w:World) (e:Ending) (w':World):Prop:=e=.returned (.int .i64 (fQ l s))∧w'=w
set_option maxHeartbeats 1600000 in
theorem ig (l:List al) (s:ByteArray) (a:Option Addr) (c:Nat) (w:World) (B N:Nat) (hl:l.length≤1073741824) (h:av w B N l a) :
 Calls Tryz.prog 126 #[.slice a l.length c,.string s] w (Ee l s w):=by
 have HA:=Hd h
 clear h
 go_enter Tryz.func126,Tryz.ntmps126
 go_wp2_with fail
 go_loopw [5] (fun i wr=>∃ k:Nat,k≤l.length∧i=.int .i64 k∧Hid (∀ j (hj:j<l.length),j<k→(l[j].name.toList==s.toList)=false)∧Hid (wr=w)) (fun i _=>l.length-(intOf i).toNat)
 case atStart=>exact ⟨0,by omega,rfl,Hd (fun j _ hj=>absurd hj (by omega)),Hd rfl⟩
 case round =>
  obtain ⟨k,hk,rfl,HN,HW⟩:=hrel
  obtain rfl:=HW.out
  by_cases hlt:k<l.length
  ·obtain ⟨b,p,rfl,hb,hget⟩:=HA.out.get (by intro h;simp [h] at hlt)
   obtain ⟨fs,g1,g2⟩:=hget k hlt
   obtain ⟨pa,pc,es,gh⟩:=g2.has
   have q0:=g1.get0' gh.name
   clear gh g1 g2 hget
   cases he:(l[k].name.toList==s.toList)
   ·have HE:=Hd he
    go_wp2_with fail
    go_roundw
    case rel=>exact ⟨k+1,by omega,by go_num,Hd (fun j hj hjk=>by
     by_cases e:j=k
     ·subst e;exact HE.out
     ·exact HN.out j hj (by omega)),Hd trivial⟩
    case measure=>simp [intOf];omega
   ·have HE:=Hd (xQ hlt he (fun j hj=>HN.out j (by omega) hj))
    go_wp2_with fail
    go_ret
    exact ⟨by rw [HE.out];rfl,rfl⟩
  ·obtain rfl:k=l.length:=by omega
   have HE:=Hd (uP (fun j hj=>HN.out j hj hj))
   go_wp2_with fail
   go_ret
   exact ⟨by rw [HE.out];rfl,rfl⟩
end Go.Proofs.YtiefeajappjnbaaGreatDoor
