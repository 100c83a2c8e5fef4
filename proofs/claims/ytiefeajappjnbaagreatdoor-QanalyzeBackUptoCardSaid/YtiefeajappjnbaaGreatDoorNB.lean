/- The literal of an integer: qanalyze.literal. -/
import Derived.Test.YtiefeajappjnbaaGreatDoorGA
import Derived.Test.YtiefeajappjnbaaGreatDoorNA
import Derived.Test.YtiefeajappjnbaaGreatDoorHG
import Derived.Test.YtiefeajappjnbaaGreatDoorHH
import Derived.Deep.RegionHeld3
import Derived.Test.YtiefeajappjnbaaGreatDoorCpx43
import Derived.Great.BuildSlice
namespace Go.Proofs.YtiefeajappjnbaaGreatDoor
open Go.RowKit
def dq (ds:ByteArray) (e:Nat):List Value:=[.int .i64 3,.string ⟨#[]⟩,.int .i64 2,.bool false,.bool false,.string ds,.int .i64 (e:Int),.int .i64 0,.int .i64 0,.int .i64 0,.int .i64 0,.string ⟨#[]⟩,.slice none 0 0,.slice none 0 0,.slice none 0 0,.slice none 0 0,.slice none 0 0]
def eS (n:Nat):List Value:=dq (aS (aw n).1) (aw n).2
theorem Dg:I64 2:=by unfold I64;decide
theorem s7:I64 0:=by unfold I64;decide
theorem zN (w:World) (B N n:Nat) (hn:n≤65536) (hN:20≤N):ag.At w B N (kX n) (eS n):=by
 have h1:=iC n
 have h2:=mc (aw n).1 (by omega)
 refine ⟨_,none,none,0,0,rfl,?_,⟨none,none,none,0,0,0,rfl,?_,.inl rfl,trivial,trivial⟩,trivial,trivial,Nat.le_refl _⟩
 ·simp [ag.Own,ag.op,ag.name,ag.args,ag.funcs,I64,ByteArray.size]
 ·refine ⟨Dg,?_,s7,s7,s7,s7,?_,Nat.zero_le _,Nat.zero_le _,Nat.zero_le _,Nat.zero_le _⟩
  ·show I64 ((aw n).2:Int)
   unfold I64
   omega
  ·show (aS (aw n).1).size≤N
   omega
theorem pQ (n:Nat):∀ v∈eS n,v.oneCell'=true:=by
 intro v hv
 simp [eS,dq] at hv
 rcases hv with rfl | rfl | rfl | rfl | rfl | rfl | rfl | rfl | rfl<;>rfl
theorem rR {w:World} {c:Int}:(convert 26 9 (.slice (some ⟨w.heap.size,0,none⟩) 1 1)).run Tryz.prog (w.alloc (.cells #[.int .u8 c] 5)).drew=.ok (.string (strOfNums [c])) (w.alloc (.cells #[.int .u8 c] 5)).drew :=
 mp (w:=(w.alloc (.cells #[.int .u8 c] 5)).drew) (B:=w.heap.size) (n:=1) (out:=[c]) ⟨rfl,.inr ⟨w.heap.size,1,#[.int .u8 c],rfl,Nat.le_refl _,heap_alloc_new w _,by omega,by unfold maxLen;omega,rfl,rfl⟩⟩ rfl
def Eb (n:Nat) (w:World) (e:Ending) (w':World):Prop:=e=.returned (.agg (eS n).toArray)∧Below w.heap.size w w'
set_option maxRecDepth 100000 in
set_option maxHeartbeats 6400000 in
theorem ny (n:Nat) (hn:n≤65536) (w:World):Calls Tryz.prog 123 #[.int .i64 n] w (Eb n w):=by
 have R0:=Hd (show aq 34 ((w.alloc (.cells ai.toArray 34)).alloc (.cells (dq ⟨#[]⟩ 0).toArray 34)) (w.heap.size+1) (dq ⟨#[]⟩ 0) from by
  have:=aq.new (w.alloc (.cells ai.toArray 34)) 34 (dq ⟨#[]⟩ 0)
  rwa [World.size_alloc] at this)
 have Z0:=Hd (show aq 34 ((w.alloc (.cells ai.toArray 34)).alloc (.cells (dq ⟨#[]⟩ 0).toArray 34)) w.heap.size ai from (aq.new w 34 ai).alloc _)
 have B0:=Hd (show Below w.heap.size w ((w.alloc (.cells ai.toArray 34)).alloc (.cells (dq ⟨#[]⟩ 0).toArray 34)) from ae (af w _) (af _ _))
 go_enter Tryz.func123,Tryz.ntmps123
 go_wp2_with ((with_reducible show wpList _ _ _ (⟨none,.store 34 (.tmp 3) (.tmp 6),_,_,_,_⟩::_) _ _);refine ak rfl 34 _ _ rfl _ (dq ⟨#[]⟩ 0).toArray rfl rfl (by kernel_rfl) rfl (by kernel_rfl) ?_)
 go_simp
 go_loopw [0] (fun i wr=>∃ m e:Nat,i=.int .i64 m∧m+e≤n∧Hid (aw n=((aw m).1,(aw m).2+e))∧Hid (aq 34 wr (w.heap.size+1) (dq ⟨#[]⟩ e))∧Hid (aq 34 wr w.heap.size ai)∧Hid (Below w.heap.size w wr)) (fun i _=>(intOf i).toNat)
 case atStart=>exact ⟨n,0,rfl,by omega,Hd rfl,R0,Z0,B0⟩
 case round =>
  clear R0 Z0 B0
  obtain ⟨w1,rfl⟩:∃ w1,w1=wr:=⟨wr,rfl⟩
  obtain ⟨m,e,rfl,hme,HST,R1,Z1,B1⟩:=hrel
  by_cases hgo:0<m∧m % 10=0
  ·obtain ⟨h0,h10⟩:=hgo
   obtain ⟨q,hq⟩:∃ q,m / 10=q:=⟨_,rfl⟩
   have HST2:=Hd (show aw n=((aw q).1,(aw q).2+(e+1)) by rw [HST.out,fV h0 h10,hq,show (aw q).2+1+e=(aw q).2+(e+1) by omega])
   have hmq:m=10 * q:=by omega
   have htm:(m:Int).tmod 10=0:=by rw [Int.tmod_eq_emod_of_nonneg (by omega)];omega
   have htd:(m:Int).tdiv 10=q:=by rw [Int.tdiv_eq_ediv_of_nonneg (by omega)];omega
   have c6:=R1.out.cell (j:=6) (v:=.int .i64 (e:Int)) rfl
   have f6:=R1.out.frozen 6
   have R2:=Hd (show aq 34 (w1.setCell ⟨w.heap.size+1,6,none⟩ (.int .i64 ((e+1:Nat):Int))) (w.heap.size+1) (dq ⟨#[]⟩ (e+1)) from R1.out.set 6 (.int .i64 ((e+1:Nat):Int)))
   have Z2:=Hd (Z1.out.setOther (b':=w.heap.size+1) (by omega) 6 (.int .i64 ((e+1:Nat):Int)))
   have B2:=Hd (bD (j:=6) B1.out (b:=w.heap.size+1) (by omega) (.int .i64 ((e+1:Nat):Int)))
   have hq1:q+1≤m:=by omega
   clear hq
   go_wp2_with fail
   go_roundw
   case rel=>exact ⟨q,e+1,by go_num,by omega,HST2,R2,Z2,B2⟩
   case measure=>simp [intOf];omega
  have HS0:=Hd (show aw n=(m,e) by rw [HST.out,dB hgo];simp)
  have hcase:m=0∨(0<m∧m % 10≠0):=by omega
  have he16:e≤65536:=by omega
  have hm16:m≤65536:=by omega
  have HDM:=Hd (show ck (aw n).1=ck m by rw [HS0.out])
  have HSE:=Hd (show (aw n).2=e by rw [HS0.out])
  clear HS0 HST
  rcases hcase with h0 | ⟨h0,h10⟩
  case' inl =>
   subst h0
  case' inr =>
   have h1:¬ (m:Int) % 10=0:=by omega
   have h2:((m:Int) % 10==0)=false:=by simpa using h1
   have h3:(0:Int)<(m:Int):=by omega
   clear h10
  all_goals
   clear hgo
   go_wp2_with fail
   go_simp
   go_loopw [0] (fun t wr=>∃ (k:Nat) (out:List Int) (sv:ByteArray),t=.int .i64 k∧k≤65536∧sv.size≤18∧out.length≤18∧Hid (sv=strOfNums out)∧Hid (ck (aw n).1=ck k++out)∧Hid (aq 34 wr (w.heap.size+1) (dq sv e))∧Hid (aq 34 wr w.heap.size ai)∧Hid (Below w.heap.size w wr)) (fun t _=>(intOf t).toNat)
   case atStart=>exact ⟨_,[],⟨#[]⟩,rfl,by omega,by simp [szq],by simp,Hd rfl,Hd (by rw [HDM.out,List.append_nil]),R1,Z1,B1⟩
   case round =>
    clear R1 Z1 B1
    obtain ⟨w2,rfl⟩:∃ w2,w2=wr:=⟨wr,rfl⟩
    obtain ⟨k,out,sv,rfl,hkm,hsv,hol,HSV,HD,R2,Z2,B2⟩:=hrel
    by_cases h0:k=0
    ·subst h0
     have HR:=Hd (show dq sv e=eS n by
      have hd:ck (aw n).1=out:=by rw [HD.out,gD];rfl
      unfold eS
      rw [HSE.out,HSV.out]
      unfold aS
      rw [hd])
     rw [HR.out] at R2
     have ho:=Hd (pQ n)
     obtain ⟨ll,hll⟩:∃ ll,eS n=ll:=⟨_,rfl⟩
     have hl1:=Hd (show (Tryz.prog.info? 34).map (·.size)=some ll.length by rw [← hll];kernel_rfl)
     have hl2:=Hd (show ll.length=17 by rw [← hll];rfl)
     have hl3:=Hd (show (Tryz.prog.info? 34).map (·.size)=some ll.toArray.size by rw [← hll];kernel_rfl)
     have HLL:=Hd hll
     rw [hll] at R2 ho
     clear hll
     go_wp2_with (first
      | ((with_reducible show wpList _ _ _ (⟨some 43,_,_,_,_,_⟩::_) _ _);refine wpList_load_mid rfl 34 _ rfl (w.heap.size+1) 0 rfl ll _ R2.out.range Tryz.underlying34 rfl hl1.out ?_)
      | ((with_reducible show wpList _ _ _ (⟨none,.store 34 (.tmp 2) (.tmp 43),_,_,_,_⟩::_) _ _);refine aD rfl 34 _ _ rfl w.heap.size 0 ll rfl rfl 34 ai ll Z2.out hl1.out (by rw [hl2.out];simp [ai]) (by rw [hl2.out];simp [ai]) ho.out ?_))
     refine bodyPost_ret (results_cell_row rfl _ _ w.heap.size 34 ll.toArray (0,0) _ rfl (Z2.out.setRow _) Tryz.underlying34 rfl hl3.out) rfl ?_
     exact ⟨by rw [HLL.out],below_setRow B2.out (Nat.le_refl _) _⟩
    obtain ⟨d,hd⟩:∃ d,k % 10=d:=⟨_,rfl⟩
    obtain ⟨q,hq⟩:∃ q,k / 10=q:=⟨_,rfl⟩
    have hk10:k=10 * q+d:=by omega
    have hd10:d<10:=by omega
    obtain ⟨c,hc⟩:∃ c:Int,((48+d:Nat):Int)=c:=⟨_,rfl⟩
    have hcd:(48:Int)+(d:Int)=c:=by omega
    have hc0:48≤c:=by omega
    have hc1:c≤57:=by omega
    have HDN:=Hd (show ck (aw n).1=ck q++(c::out) by
     rw [HD.out,dl h0,hd,hq,hc]
     simp)
    have hol2:(c::out).length≤18:=by
     have h1:=io 18 (aw n).1 (by have:=(iC n).1;omega)
     rw [HDN.out] at h1
     simp only [List.length_append,List.length_cons] at h1 ⊢
     omega
    have hol3:out.length≤17:=by simpa using hol2
    have hsz:sv.size=out.length:=by rw [HSV.out];exact strOfNums_size _
    have HZ:=Hd (show (strOfNums [c]++sv).size=out.length+1 by rw [ByteArray.size_append,strOfNums_size,hsz];simp;omega)
    have HSN:=Hd (show strOfNums [c]++sv=strOfNums (c::out) by rw [HSV.out,kJ];rfl)
    have hrem:(k:Int) % 10=d:=by omega
    have hquo:(k:Int) / 10=q:=by omega
    have htm:(k:Int).tmod 10=d:=by rw [Int.tmod_eq_emod_of_nonneg (by omega)];omega
    have htd:(k:Int).tdiv 10=q:=by rw [Int.tdiv_eq_ediv_of_nonneg (by omega)];omega
    have hcat:(strOfNums [c]).size+sv.size≤9223372036854775807:=by rw [strOfNums_size,hsz];simp;omega
    have hqk:q<k:=by omega
    obtain ⟨s1,hs1⟩:∃ s1,strOfNums [c]++sv=s1:=⟨_,rfl⟩
    have R3:=Hd (show aq 34 ((w2.alloc (.cells #[.int .u8 c] 5)).drew.setCell ⟨w.heap.size+1,5,none⟩ (.string (strOfNums [c]++sv))) (w.heap.size+1) (dq (strOfNums [c]++sv) e) from aq.set (w:=(w2.alloc (.cells #[.int .u8 c] 5)).drew) (R2.out.alloc (.cells #[.int .u8 c] 5)) 5 (.string (strOfNums [c]++sv)))
    have Z3:=Hd (aq.setOther (w:=(w2.alloc (.cells #[.int .u8 c] 5)).drew) (Z2.out.alloc (.cells #[.int .u8 c] 5)) (b':=w.heap.size+1) (by omega) 5 (.string (strOfNums [c]++sv)))
    have B3:=Hd (bD (j:=5) (b:=w.heap.size+1) (show Below w.heap.size w (w2.alloc (.cells #[.int .u8 c] 5)).drew from (show Below w.heap.size w (w2.alloc (.cells #[.int .u8 c] 5)) from B2.out.alloc B2.out.size _).trans ⟨rfl,rfl,rfl,Nat.le_refl _,fun _ _=>rfl⟩) (by omega) (.string (strOfNums [c]++sv)))
    have hconv:=@rR w2 c
    have c5:(w2.alloc (.cells #[.int .u8 c] 5)).drew.cell? ⟨w.heap.size+1,5,none⟩=some (.string sv):=(R2.out.alloc (.cells #[.int .u8 c] 5)).cell (j:=5) (v:=.string sv) rfl
    have c5b:w2.drew.cell? ⟨w.heap.size+1,5,none⟩=some (.string sv):=R2.out.cell (j:=5) (v:=.string sv) rfl
    have f5:(w2.alloc (.cells #[.int .u8 c] 5)).drew.frozen? ⟨w.heap.size+1,5,none⟩=false:=(R2.out.alloc (.cells #[.int .u8 c] 5)).frozen 5
    clear HD hd hq hc hk10 hsz hs1
    go_wp2_with fail
    go_region
    go_wp2_with fail
    go_roundw
    case rel=>exact ⟨q,c::out,_,by go_num,by omega,by rw [HZ.out];omega,hol2,HSN,HDN,R3,Z3,B3⟩
    case measure=>simp [intOf];omega
end Go.Proofs.YtiefeajappjnbaaGreatDoor

/- The expression of a selection: qanalyze.expression. -/
namespace Go.Proofs.YtiefeajappjnbaaGreatDoor
open Go.RowKit
def bB (w:World) (B N:Nat):List aL→Option Addr→Prop
 | [],_=>True
 | s::r,a=>∃ b o,a=some ⟨b,o,none⟩∧b<B∧s.key.size≤N∧aj w b o s.cells∧bB w B N r (some ⟨b,o+4,none⟩)
theorem bB.below {w w':World} {B N:Nat} (hb:Below B w w'):∀ (l:List aL) {a:Option Addr},bB w B N l a→bB w' B N l a
 | [],_,_=>trivial
 | _::r,_,⟨b,o,h1,h2,h3,h4,h5⟩=>⟨b,o,h1,h2,h3,h4.below hb h2,bB.below hb r h5⟩
theorem bB.get {w:World} {B N:Nat}:∀ {l:List aL} {a:Option Addr},bB w B N l a→l≠[]→∃ b o,a=some ⟨b,o,none⟩∧b<B∧∀ i (hi:i<l.length),l[i].key.size≤N∧aj w b (o+i * 4) l[i].cells
 | [],_,_,h=>absurd rfl h
 | p::r,_,⟨b,o,h1,h2,h3,h4,h5⟩,_=>by
   refine ⟨b,o,h1,h2,fun i hi=>?_⟩
   match i with
   | 0=>exact ⟨h3,by simpa using h4⟩
   | i+1 =>
     have hi':i<r.length:=by simpa using hi
     obtain ⟨b',o',e,_,hg⟩:=bB.get h5 (by intro h;simp [h] at hi')
     simp only [Option.some.injEq,Addr.mk.injEq,and_true] at e
     obtain ⟨rfl,rfl⟩:=e
     obtain ⟨c1,c2⟩:=hg i hi'
     exact ⟨by simpa using c1,by rw [show o+(i+1) * 4=o+4+i * 4 by omega];simpa using c2⟩
theorem iT {w:World} {B N b:Nat} (hb:b<B):∀ (l:List aL) (o:Nat),(∀ i (hi:i<l.length),l[i].key.size≤N∧aj w b (o+i * 4) l[i].cells)→bB w B N l (some ⟨b,o,none⟩)
 | [],_,_=>trivial
 | s::r,o,h=>by
   obtain ⟨h1,h2⟩:=h 0 (by simp)
   refine ⟨b,o,rfl,hb,by simpa using h1,by simpa using h2,iT hb r (o+4) fun i hi=>?_⟩
   obtain ⟨c1,c2⟩:=h (i+1) (by simpa using hi)
   exact ⟨by simpa using c1,by rw [show o+4+i * 4=o+(i+1) * 4 by omega];simpa using c2⟩
def aT (op:Int) (nm:ByteArray) (a:Value):List Value:=[.int .i64 op,.string nm,.int .i64 0,.bool false,.bool false,.string ⟨#[]⟩,.int .i64 0,.int .i64 0,.int .i64 0,.int .i64 0,.int .i64 0,.string ⟨#[]⟩,.slice none 0 0,.slice none 0 0,.slice none 0 0,a,.slice none 0 0]
theorem bw (op:Int) (nm:ByteArray) {a:Value} (ha:a.oneCell'=true):∀ v∈aT op nm a,v.oneCell'=true:=by
 intro v hv
 simp only [aT,List.mem_cons,List.mem_nil_iff,or_false] at hv
 rcases hv with rfl | rfl | rfl | rfl | rfl | rfl | rfl | rfl | rfl | rfl | rfl | rfl | rfl | rfl | rfl | rfl | rfl
 all_goals first | rfl | exact ha
theorem lh {w:World} {B N op_n:Nat} {op:Int} {nm:ByteArray} {l:List ag} {a:Option Addr} {c:Nat} (ho:op=(op_n:Int)) (hop:op_n≤100) (hn:nm.size≤N) (hl:l.length≤N) (hc:l.length≤c) (hA:bb w B N l a):ag.At w B N (.mk op nm bk l []) (aT op nm (.slice a l.length c)):=by
 refine ⟨_,a,none,c,0,rfl,?_,gR w B N,hA,trivial,hc⟩
 refine ⟨?_,hn,hl,Nat.zero_le _⟩
 show I64 op
 unfold I64
 omega
def bV (L N:Nat) (x:ag) (row:List Value) (u:World):Prop:=row.length=17∧(∀ v∈row,v.oneCell'=true)∧bF L none u (fun c=>ag.At c c.heap.size N x row)
theorem bV.keep {L N:Nat} {x:ag} {row:List Value} {u u':World} (h:bV L N x row u) (hk:bO L none u u'):bV L N x row u':=⟨h.1,h.2.1,h.2.2.next hk (fun _ _ h=>.inl h)⟩
theorem sW {L:Nat} {u u':World} (hb:Below u.heap.size u u'):bO L none u u':=⟨hb.size,fun k _ h2 _=>hb.block k h2⟩
theorem eT {L g:Nat} {u:World} (hg:g<L) (new:Array Value):bO L none u (u.setRow g new):=⟨by rw [setRow_size];exact Nat.le_refl _,fun k h1 _ _=>setRow_other u g k new (by omega)⟩
theorem bV.below {L N:Nat} {x:ag} {row:List Value} {u u':World} (h:bV L N x row u) (hb:Below u.heap.size u u'):bV L N x row u':=h.keep (sW hb)
theorem mw {L nb:Nat} {u c:World} {t:TypeId} {cs:List Value} (h:aq t u nb cs) (hL:L≤nb) (hk:bO L none u c):aq t c nb cs:=(hk.2 nb hL h.lt (by simp)).trans h
theorem bV.one {L N op_n:Nat} {op:Int} {x:ag} {row:List Value} {u:World} {nm:ByteArray} (h:bV L N x row u) (hL:L≤u.heap.size) (ho:op=(op_n:Int)) (hop:op_n≤100) (hn:nm.size≤N) (hN:2≤N) :
 bV L N (.mk op nm bk [x] []) (aT op nm (.slice (some ⟨u.heap.size,0,none⟩) 1 1)) (u.alloc (.cells row.toArray 34)):=by
 refine ⟨rfl,bw _ _ rfl,fun c hc=>lh (l:=[x]) ho hop hn (by simp;omega) (Nat.le_refl _) ?_⟩
 have R:=mw (aq.new u 34 row) hL hc
 exact ⟨⟨u.heap.size,0,row,rfl,R.lt,R.cells,h.2.2 c ((sW (af u _)).step hc (fun _ _ h=>by cases h))⟩,trivial⟩
theorem bV.two {L N op_n:Nat} {op:Int} {x y:ag} {row row2:List Value} {u:World} {nm:ByteArray} (h:bV L N x row u) (h2:bV L N y row2 u) (hL:L≤u.heap.size) (ho:op=(op_n:Int)) (hop:op_n≤100) (hn:nm.size≤N) (hN:2≤N) :
 bV L N (.mk op nm bk [x,y] []) (aT op nm (.slice (some ⟨u.heap.size,0,none⟩) 2 2)) (u.alloc (.cells (row++row2).toArray 34)):=by
 refine ⟨rfl,bw _ _ rfl,fun c hc=>lh (l:=[x,y]) ho hop hn (by simpa using hN) (Nat.le_refl _) ?_⟩
 have R:=mw (aq.new u 34 (row++row2)) hL hc
 have hk:=(sW (L:=L) (af u (.cells (row++row2).toArray 34))).step hc (fun _ _ h=>by cases h)
 have c1:aj c u.heap.size 0 row:=fun j hj=>by
  rw [R.cells j (by rw [List.length_append];omega),List.getElem?_append_left hj]
 have c2:aj c u.heap.size 17 row2:=fun j hj=>by
  have:=R.cells (17+j) (by rw [List.length_append,h.1];omega)
  rw [Nat.zero_add] at this
  rw [this,List.getElem?_append_right (by rw [h.1];omega),h.1,Nat.add_sub_cancel_left]
 exact ⟨⟨u.heap.size,0,row,rfl,R.lt,c1,h.2.2 c hk⟩,⟨⟨u.heap.size,17,row2,rfl,R.lt,c2,h2.2.2 c hk⟩,trivial⟩⟩
theorem bV.wide {L L' N:Nat} {x:ag} {row:List Value} {u:World} (h:bV L' N x row u) (hL:L≤L'):bV L N x row u:=⟨h.1,h.2.1,h.2.2.wide hL⟩
def AJ (N:Nat) (x:ag) (w:World) (e:Ending) (w':World):Prop:=∃ row,e=.returned (.agg row.toArray)∧bV w.heap.size N x row w'∧Below w.heap.size w w'
theorem l8 (L N:Nat) (u:World):bV L N fu (aT 1 ⟨#[]⟩ (.slice none 0 0)) u:=⟨rfl,bw _ _ rfl,fun c _=>kv c _ N⟩
theorem po (s:aL):s.cells=[.bool s.each,.bool s.byIdx,.string s.key,.int .i64 s.index]:=rfl
theorem lF {e:ag} {s:aL} (h:s.each=true):cO e s=.mk 8 ⟨#[]⟩ bk [e] []:=by unfold cO;rw [if_pos h]
theorem ki {e:ag} {s:aL} (h:s.each=false) (h2:s.byIdx=true):cO e s=.mk 6 ⟨#[]⟩ bk [e,kX s.index.toNat] []:=by unfold cO;rw [if_neg (by rw [h];decide),if_pos h2]
theorem mZ {e:ag} {s:aL} (h:s.each=false) (h2:s.byIdx=false):cO e s=.mk 5 s.key bk [e] []:=by unfold cO;rw [if_neg (by rw [h];decide),if_neg (by rw [h2];decide)]
theorem lO {s:aL} (h:s.each=false) (h2:s.byIdx=true) (hp:aW s=true):0≤s.index∧s.index≤65536:=by
 unfold aW at hp
 rw [if_neg (by rw [h];decide),if_pos h2] at hp
 exact (of_decide_eq_true hp).2
theorem eQ {row new:List Value} (h:row.length=17) (h2:new.length=17):new=row.take 0++new++row.drop (0+new.length):=by
 rw [h2,List.take_zero,List.nil_append,Nat.zero_add,← h,List.drop_length,List.append_nil]
theorem eR {row new:List Value} (h:row.length=17) (h2:new.length=17):0+new.length≤row.length:=by omega
end Go.Proofs.YtiefeajappjnbaaGreatDoor

/- A plan that was handed in; its query: what is small about it, how deep it is; rows of expressions that are made. -/
namespace Go.Proofs.YtiefeajappjnbaaGreatDoor
open Go.RowKit
def cJ (w:World) (B N:Nat) (d:br) (l:List al) (ps:List Value):Prop:=∃ sa sc ics ucs bcs fa fc,ps=ao d.mode (.slice sa d.steps.length sc) d.name ics ucs bcs (.slice fa l.length fc)∧d.steps.length≤N∧d.name.size≤N∧l.length≤N ∧
 bB w B N d.steps sa∧ag.At w B N d.init ics∧ag.At w B N d.upd ucs∧ag.At w B N d.body bcs∧av w B N l fa
theorem bB.mono {w:World} {B B' N:Nat} (h:B≤B'):∀ (l:List aL) {a:Option Addr},bB w B N l a→bB w B' N l a
 | [],_,_=>trivial
 | _::r,_,⟨b,o,h1,h2,h3,h4,h5⟩=>⟨b,o,h1,Nat.lt_of_lt_of_le h2 h,h3,h4,bB.mono h r h5⟩
theorem bB.sels {w:World} {B N:Nat} {l:List aL} {a:Option Addr} (h:bB w B N l a):ek w B l a:=by
 by_cases hl:l=[]
 ·exact .inl hl
 obtain ⟨b,o,e,hb,hg⟩:=h.get hl
 refine .inr ⟨b,o,e,hb,fun j hj=>?_⟩
 rw [lK] at hj
 have h4:=(hg (j / 4) (by omega)).2 (j % 4) (show j % 4<4 by omega)
 rw [show o+j / 4 * 4+j % 4=o+j by omega] at h4
 rw [h4,← kl l (j / 4) (by omega),List.getElem?_take,if_pos (show j % 4<4 by omega),List.getElem?_drop,show j / 4 * 4+j % 4=j by omega]
theorem ek.selx {w:World} {B N:Nat} {l:List aL} {a:Option Addr} (h:ek w B l a) (hk:∀ s∈l,s.key.size≤N):bB w B N l a:=by
 by_cases hl:l=[]
 ·subst hl;trivial
 obtain ⟨b,o,rfl,hb,hg⟩:=h.get hl
 exact iT hb l o fun i hi=>⟨hk _ (List.getElem_mem hi),hg i hi⟩
theorem bB.keys {w:World} {B N:Nat} {l:List aL} {a:Option Addr} (h:bB w B N l a):∀ s∈l,s.key.size≤N:=fun s hs=>by
 obtain ⟨i,hi,rfl⟩:=List.getElem_of_mem hs
 obtain ⟨_,_,_,_,hg⟩:=h.get (by intro e;subst e;simp at hi)
 exact (hg i hi).1
theorem bB.take {w:World} {B N n:Nat} {l:List aL} {a:Option Addr} (h:bB w B N l a):bB w B N (l.take n) a:=by
 by_cases hl:l.take n=[]
 ·rw [hl];trivial
 obtain ⟨b,o,rfl,hb,hg⟩:=h.get (by intro e;subst e;simp at hl)
 refine iT hb _ o fun i hi=>?_
 have hi':i<l.length:=by simp at hi;omega
 rw [List.getElem_take]
 exact hg i hi'
theorem cJ.below {w w':World} {B N:Nat} {d:br} {l:List al} {ps:List Value} (h:cJ w B N d l ps) (hb:Below B w w'):cJ w' B N d l ps:=by
 obtain ⟨sa,sc,ics,ucs,bcs,fa,fc,h0,h1,h2,h3,h4,h5,h6,h7,h8⟩:=h
 exact ⟨sa,sc,ics,ucs,bcs,fa,fc,h0,h1,h2,h3,h4.below hb,h5.below hb,h6.below hb,h7.below hb,av.below hb _ h8⟩
theorem cJ.mono {w:World} {B B' N:Nat} {d:br} {l:List al} {ps:List Value} (h:cJ w B N d l ps) (hb:B≤B'):cJ w B' N d l ps:=by
 obtain ⟨sa,sc,ics,ucs,bcs,fa,fc,h0,h1,h2,h3,h4,h5,h6,h7,h8⟩:=h
 exact ⟨sa,sc,ics,ucs,bcs,fa,fc,h0,h1,h2,h3,h4.mono hb,ag.At.mono hb _ h5,ag.At.mono hb _ h6,ag.At.mono hb _ h7,av.mono hb _ h8⟩
theorem cJ.len {w:World} {B N:Nat} {d:br} {l:List al} {ps:List Value} (h:cJ w B N d l ps):ps.length=55:=by
 obtain ⟨sa,sc,ics,ucs,bcs,fa,fc,h0,h1,h2,h3,h4,h5,h6,h7,h8⟩:=h
 rw [h0]
 exact bl _ _ _ _ h5.len h6.len h7.len
theorem cJ.one {w:World} {B N:Nat} {d:br} {l:List al} {ps:List Value} (h:cJ w B N d l ps):∀ u∈ps,u.oneCell'=true:=by
 obtain ⟨sa,sc,ics,ucs,bcs,fa,fc,h0,h1,h2,h3,h4,h5,h6,h7,h8⟩:=h
 rw [h0]
 exact cB rfl h5.one h6.one h7.one rfl
theorem cJ.pln {w:World} {B N:Nat} {d:br} {l:List al} {ps:List Value} (h:cJ w B N d l ps) (hl:d.steps.length≤48):dc w B N d l ps:=by
 obtain ⟨sa,sc,ics,ucs,bcs,fa,fc,h0,h1,h2,h3,h4,h5,h6,h7,h8⟩:=h
 exact ⟨sa,sc,ics,ucs,bcs,fa,fc,h0,hl,h2,h3,h4.sels,h5,h6,h7,h8⟩
theorem dc.plx {w:World} {B N:Nat} {d:br} {l:List al} {ps:List Value} (h:dc w B N d l ps) (hk:∀ s∈d.steps,s.key.size≤N) (hn:d.steps.length≤N):cJ w B N d l ps:=by
 obtain ⟨sa,sc,ics,ucs,bcs,fa,fc,h0,_,h2,h3,h4,h5,h6,h7,h8⟩:=h
 exact ⟨sa,sc,ics,ucs,bcs,fa,fc,h0,hn,h2,h3,h4.selx hk,h5,h6,h7,h8⟩
structure cJ.Has (w:World) (B N:Nat) (d:br) (l:List al) (ps:List Value) (sa:Option Addr) (sc:Nat) (ics ucs bcs:List Value) (fa:Option Addr) (fc:Nat):Prop where
 mode:ps[0]?=some (.int .i64 d.mode)
 steps:ps[1]?=some (.slice sa d.steps.length sc)
 name:ps[2]?=some (.string d.name)
 init:(ps.drop 3).take 17=ics
 upd:(ps.drop 20).take 17=ucs
 body:(ps.drop 37).take 17=bcs
 funcs:ps[54]?=some (.slice fa l.length fc)
 hsl:d.steps.length≤N
 hn:d.name.size≤N
 hl:l.length≤N
 atSteps:bB w B N d.steps sa
 atInit:ag.At w B N d.init ics
 atUpd:ag.At w B N d.upd ucs
 atBody:ag.At w B N d.body bcs
 atFuncs:av w B N l fa
theorem cJ.has {w:World} {B N:Nat} {d:br} {l:List al} {ps:List Value} (h:cJ w B N d l ps):∃ sa sc ics ucs bcs fa fc,cJ.Has w B N d l ps sa sc ics ucs bcs fa fc:=by
 obtain ⟨sa,sc,ics,ucs,bcs,fa,fc,h0,h1,h2,h3,h4,h5,h6,h7,h8⟩:=h
 subst h0
 exact ⟨sa,sc,ics,ucs,bcs,fa,fc,rfl,rfl,rfl,g9 _ _ _ _ h5.len,jh _ _ _ _ h5.len h6.len,hH _ _ _ _ h5.len h6.len h7.len,ko _ _ _ _ h5.len h6.len h7.len,h1,h2,h3,h4,h5,h6,h7,h8⟩
theorem ze (n:Nat):cc (kX n):=fi.2 ⟨by simp [kX,ag.args],kZ _ (fun i hi=>by simp [kX,ag.args] at hi),k8 _ (fun i hi=>by simp [kX,ag.funcs] at hi)⟩
theorem gX {o:Int} {nm:ByteArray} {v:ar} {es:List ag} (h:es.length≤65536) (ha:∀ e∈es,cc e):cc (.mk o nm v es []):=fi.2 ⟨h,kZ _ (fun _ hi=>ha _ (List.getElem_mem hi)),k8 _ (fun i hi=>by simp [ag.funcs] at hi)⟩
theorem vR {e:ag} (h:cc e) (s:aL):cc (cO e s):=by
 unfold cO
 split
 ·exact gX (by simp) (by simpa using h)
 split
 ·exact gX (by simp) (by intro x hx;simp at hx;rcases hx with rfl | rfl;exact h;exact ze _)
 ·exact gX (by simp) (by simpa using h)
theorem vT (l:List aL):cc (aX l):=by
 have h:∀ (l:List aL) (e:ag),cc e→cc (l.foldl cO e):=by
  intro l
  induction l with
  | nil=>exact fun _ h=>h
  | cons a r ih=>exact fun e h=>ih _ (vR h a)
 exact h l fu (gX (by simp) (by simp))
theorem m7 {d:br} (hi:cc d.init) (hu:cc d.upd) (hb:cc d.body):cc (a8 d):=by
 have hx:=vT d.steps
 have hn:cc jM:=gX (by simp) (by simp)
 have hm:cc (ch d):=by
  unfold ch
  split
  ·exact gX (by simp) (by intro x h;simp at h;rcases h with rfl | rfl | rfl<;>assumption)
  split
  ·exact gX (by simp) (by intro x h;simp at h;rcases h with rfl | rfl | rfl | rfl<;>assumption)
  ·exact hx
 unfold a8
 split
 ·exact hm
 ·exact gX (by simp) (by intro x h;simp at h;rcases h with rfl | rfl<;>assumption)
theorem kB {m n:Nat} (h:m≤n) {e:ag} (hd:dpE m e):dpE n e:=by
 induction h with
 | refl=>exact hd
 | step _ ih=>exact x8 ih
mutual
theorem x4:∀ e:ag,∃ m,dpE m e
 | .mk o n v es fs=>by
   obtain ⟨a,ha⟩:=x7 es
   obtain ⟨b,hb⟩:=rN fs
   exact ⟨a+b+1,fun x hx=>kB (by omega) (ha x hx),fun f hf=>kB (by omega) (hb f hf)⟩
theorem x7:∀ l:List ag,∃ m,∀ x∈l,dpE m x
 | []=>⟨0,by simp⟩
 | e::r=>by
   obtain ⟨a,ha⟩:=x4 e
   obtain ⟨b,hb⟩:=x7 r
   exact ⟨a+b,fun x hx=>by
    rcases List.mem_cons.1 hx with rfl | hx
    ·exact kB (by omega) ha
    ·exact kB (by omega) (hb x hx)⟩
theorem Cr:∀ f:al,∃ m,dpE m f.body
 | .mk _ _ e=>x4 e
theorem rN:∀ l:List al,∃ m,∀ f∈l,dpE m f.body
 | []=>⟨0,by simp⟩
 | f::r=>by
   obtain ⟨a,ha⟩:=Cr f
   obtain ⟨b,hb⟩:=rN r
   exact ⟨a+b,fun x hx=>by
    rcases List.mem_cons.1 hx with rfl | hx
    ·exact kB (by omega) ha
    ·exact kB (by omega) (hb x hx)⟩
end
theorem cH (x:ag):r9 x:=by
 obtain ⟨m,h⟩:=x4 x
 exact cZ m x h
theorem yk (l:List al):tQ l:=by
 obtain ⟨m,h⟩:=rN l
 exact i8 h
def bg (B:Nat) (w:World) (L m N:Nat) (x:ag) (row:List Value) (u:World):Prop:=row.length=17∧(∀ v∈row,v.oneCell'=true)∧bF L (some m) u (fun c=>Below B w c→ag.At c c.heap.size N x row)
theorem AV {L m:Nat} {u u':World} (hb:Below u.heap.size u u'):bO L (some m) u u':=⟨hb.size,fun k _ h2 _=>hb.block k h2⟩
theorem zT {L m:Nat} {u:World} (new:Array Value):bO L (some m) u (u.setRow m new):=⟨by rw [setRow_size];exact Nat.le_refl _,fun k _ _ h3=>setRow_other u m k new (fun e=>h3 (by rw [e]))⟩
theorem pZ {L m g:Nat} {u:World} (hg:g<L) (new:Array Value):bO L (some m) u (u.setRow g new):=⟨by rw [setRow_size];exact Nat.le_refl _,fun k h1 _ _=>setRow_other u g k new (by omega)⟩
theorem bV.toB {B L m N:Nat} {w:World} {x:ag} {row:List Value} {u u':World} (h:bV L N x row u) (hb:Below u.heap.size u u') (hm:u.heap.size≤m):bg B w L m N x row u' :=
 ⟨h.1,h.2.1,(h.2.2.next (sW hb) (fun q _ hq=>by cases hq;exact .inr hm):bF L (some m) u' _).mono fun _ h _=>h⟩
theorem bg.keep {B L m N:Nat} {w:World} {x:ag} {row:List Value} {u u':World} (h:bg B w L m N x row u) (hk:bO L (some m) u u'):bg B w L m N x row u':=⟨h.1,h.2.1,h.2.2.next hk (fun _ _ h=>.inl h)⟩
theorem bg.below {B L m N:Nat} {w:World} {x:ag} {row:List Value} {u u':World} (h:bg B w L m N x row u) (hb:Below u.heap.size u u'):bg B w L m N x row u':=h.keep (AV hb)
theorem bg.here {B L m N:Nat} {w:World} {x:ag} {row:List Value} {u:World} (h:bg B w L m N x row u) (hb:Below B w u):ag.At u u.heap.size N x row:=h.2.2.here hb
theorem bg.copy {B L m N:Nat} {w u u':World} {x:ag} {row:List Value} (hs:bF u.heap.size none u' (fun c=>Below B u c→ag.At c c.heap.size N x row)) (h0:Below B w u) (hb:Below u.heap.size u u') (hB:B≤u.heap.size) (hL:L≤u.heap.size) (hm:m<u.heap.size):bg B w L m N x row u':=by
 have hx:=hs.here (hb.mono hB)
 refine ⟨hx.len,hx.one,fun _ hk hc=>hs _ ⟨hk.1,fun k h1 h2 _=>hk.2 k (Nat.le_trans hL h1) h2 (by simp;omega)⟩ (cm h0 hc (Nat.le_trans hb.size hk.1))⟩
theorem bg.old {B L m N:Nat} {w u:World} {x:ag} {row:List Value} (h:ag.At w B N x row) (hB:B≤u.heap.size):bg B w L m N x row u :=
 ⟨h.len,h.one,fun _ hk hc=>ag.At.mono (Nat.le_trans hB hk.1) _ (h.below hc)⟩
theorem rH:∀ {rows:List (List Value)},(∀ r∈rows,r.length=17)→∀ {i j:Nat} (hi:i<rows.length),j<17→rows.flatten[i * 17+j]?=rows[i][j]?
 | [],_,_,_,hi,_=>by simp at hi
 | r::rs,h,0,j,_,hj=>by
   have hr:=h r (List.mem_cons_self ..)
   rw [List.flatten_cons,Nat.zero_mul,Nat.zero_add,List.getElem?_append_left (by omega)]
   rfl
 | r::rs,h,i+1,j,hi,hj=>by
   have hr:=h r (List.mem_cons_self ..)
   rw [List.flatten_cons,List.getElem?_append_right (by omega),hr,show (i+1) * 17+j-17=i * 17+j by omega,rH (fun x hx=>h x (List.mem_cons_of_mem _ hx)) (by simpa using hi) hj]
   rfl
theorem ju:∀ {rows:List (List Value)},(∀ r∈rows,r.length=17)→rows.flatten.length=rows.length * 17
 | [],_=>rfl
 | r::rs,h=>by
   rw [List.flatten_cons,List.length_append,h r (List.mem_cons_self ..),ju fun x hx=>h x (List.mem_cons_of_mem _ hx),List.length_cons]
   omega
theorem bg.list {B L m N op_n:Nat} {w u:World} {op:Int} {nm:ByteArray} {xs:List ag} {rows:List (List Value)} (hr:rows.length=xs.length) (h:∀ i (hi:i<xs.length) (hi':i<rows.length),bg B w L m N xs[i] rows[i] u) (hL:L≤u.heap.size) (hm:m<u.heap.size) (ho:op=(op_n:Int)) (hop:op_n≤100) (hn:nm.size≤N) (hN:xs.length≤N) :
 bg B w L m N (.mk op nm bk xs []) (aT op nm (.slice (some ⟨u.heap.size,0,none⟩) xs.length xs.length)) (u.alloc (.cells rows.flatten.toArray 34)):=by
 have h17:∀ r∈rows,r.length=17:=fun r hr'=>by
  obtain ⟨i,hi,rfl⟩:=List.getElem_of_mem hr'
  exact (h i (by omega) hi).1
 refine ⟨rfl,bw _ _ rfl,fun c hc hbc=>lh ho hop hn hN (Nat.le_refl _) ?_⟩
 have R:aq 34 c u.heap.size rows.flatten:=(hc.2 u.heap.size hL (by rw [World.size_alloc];omega) (by simp;omega)).trans (aq.new u 34 rows.flatten)
 have hk:=(AV (L:=L) (m:=m) (af u (.cells rows.flatten.toArray 34))).step hc (fun _ _ h=>.inl h)
 refine fC R.lt xs 0 fun i hi=>⟨rows[i]'(by omega),fun j hj=>?_,(h i hi (by omega)).2.2 c hk hbc⟩
 have hj17:j<17:=by rw [← h17 _ (List.getElem_mem (by omega:i<rows.length))];exact hj
 rw [Nat.zero_add,← rH h17 (by omega:i<rows.length) hj17]
 have:=R.cells (i * 17+j) (by rw [ju h17];omega)
 rwa [Nat.zero_add] at this
theorem xR (rows:List (List Value)):((rows.map fun r=>Value.agg r.toArray).flatMap fun v=>v.cells.toList)=rows.flatten:=by
 rw [List.flatMap_map]
 simp only [Value.cells,List.flatMap]
 rw [List.map_id']
theorem eo {o:Oper} {a:Act} {w:World} {K:Act→World→Prop} {Q:Exit→Act→World→Prop} (rows:List (List Value)) (fl:List Value) (hfl:rows.flatten=fl) (len:Nat) (parts:Array (Nat×Operand)) (ho:o.op=.buildSlice 31 len parts)
 (hlen:rows.length=len) (hpos:0<len) (hle:len≤1000) (h17:∀ r∈rows,r.length=17) (hp:(parts.map fun (i,x)=>(i,a.eval x)).toList=((rows.map fun r=>Value.agg r.toArray).zipIdx 0).map fun x=>(x.2,x.1))
 (h:K (a.put o.dst (.slice (some ⟨w.heap.size,0,none⟩) len len)) (w.alloc (.cells fl.toArray 34))):o.wp Tryz.prog a w K Q:=by
 subst hfl
 obtain ⟨z,hz,hi⟩:=AX
 cases hie:Tryz.prog.info? 34 with
 | none=>rw [hie] at hi;cases hi
 | some ie =>
   rw [hie] at hi
   simp only [Option.map_some,Option.some.injEq,Prod.mk.injEq] at hi
   obtain ⟨h1,h2,_⟩:=hi
   refine wp_buildSlice 31 34 len parts ho rows.flatten.toArray ie (.agg z) Tryz.underlying31 hie h1 (by rw [h2];omega) (by rw [h2];omega) ?_ h
   have e:=Great.fill_whole (s:=17) (by decide) (rows.map fun r=>Value.agg r.toArray) ((Array.range (len * 17)).map ((Value.agg z).cells[· % (Value.agg z).cells.size]!)) (fun v hv=>by
    obtain ⟨r,hr,rfl⟩:=List.mem_map.1 hv
    show r.toArray.size=17
    rw [List.size_toArray]
    exact h17 r hr) (by simp [hlen])
   rw [xR] at e
   rw [hp,h2]
   exact e
theorem dN {ops:Array Oper} {rest:List Oper} {o:Oper} {a:Act} {w:World} {Q:Exit→Act→World→Prop} (hg:o.guard=none) (rows:List (List Value)) (fl:List Value) (hfl:rows.flatten=fl) (len:Nat) (parts:Array (Nat×Operand)) (ho:o.op=.buildSlice 31 len parts)
 (hlen:rows.length=len) (hpos:0<len) (hle:len≤1000) (h17:∀ r∈rows,r.length=17) (hp:(parts.map fun (i,x)=>(i,a.eval x)).toList=((rows.map fun r=>Value.agg r.toArray).zipIdx 0).map fun x=>(x.2,x.1))
 (h:wpList Tryz.prog ops Q rest (a.put o.dst (.slice (some ⟨w.heap.size,0,none⟩) len len)) (w.alloc (.cells fl.toArray 34))):wpList Tryz.prog ops Q (o::rest) a w :=
 wpList_plain hg fun _ hK=>eo rows fl hfl len parts ho hlen hpos hle h17 hp (hK _ _ h)
end Go.Proofs.YtiefeajappjnbaaGreatDoor

/- qanalyze.expression gives the expression of a selection (printed by a program of ours: genexp43). -/
namespace Go.Proofs.YtiefeajappjnbaaGreatDoor
open Go.RowKit
theorem l3 (L N n:Nat) (u:World) (hn:n≤65536) (hN:20≤N):bV L N (kX n) (eS n) u:=⟨rfl,pQ n,fun c _=>zN c _ N n hn hN⟩
set_option maxRecDepth 100000 in
set_option maxHeartbeats 12800000 in
theorem oF (l:List aL) (a:Option Addr) (c:Nat) (w:World) (B N:Nat) (hN:N≤1048576) (hN1:20≤N) (hB:B≤w.heap.size) (hl:l.length≤48) (hp:l.all aW=true) (hA:bB w B N l a) :
 Calls Tryz.prog 80 #[.slice a l.length c] w (AJ N (aX l) w):=by
 have HA:=Hd hA
 have HP:=Hd (List.all_eq_true.1 hp)
 have H0:=Hd (af w (.cells ai.toArray 34))
 have Z0:=Hd (aq.new w 34 ai)
 clear hA hp
 go_enter Tryz.func80,Tryz.ntmps80
 go_wp2_with fail
 refine (iK _).mono ?_
 rintro e w1 ⟨rfl,hb1⟩
 have H1:=Hd (ae H0.out hb1)
 have Z1:=Hd ((Z0.out.then hb1).alloc (.cells (aT 1 ⟨#[]⟩ (.slice none 0 0)).toArray 34))
 have hs1:w.heap.size<w1.heap.size:=by
  have:=hb1.size
  rw [World.size_alloc] at this
  omega
 have R1:=Hd (aq.new w1 34 (aT 1 ⟨#[]⟩ (.slice none 0 0)))
 have B1:=Hd (show Below w.heap.size w (w1.alloc (.cells (aT 1 ⟨#[]⟩ (.slice none 0 0)).toArray 34)) from ae H1.out (af w1 _))
 clear hb1 Z0
 go_wp2_with ((with_reducible show wpList _ _ _ (⟨none,.store 34 (.tmp 3) (.tmp 6),_,_,_,_⟩::_) _ _);refine ak rfl 34 _ _ rfl _ (aT 1 ⟨#[]⟩ (.slice none 0 0)).toArray rfl rfl (by kernel_rfl) rfl (by kernel_rfl) ?_)
 go_simp
 go_loopw [9] (fun i wr=>∃ (k:Nat) (row:List Value),k≤l.length∧i=.int .i64 k∧Hid (bV (w1.heap.size+1) N (aX (l.take k)) row wr)∧Hid (aq 34 wr w1.heap.size row)∧Hid (aq 34 wr w.heap.size ai)∧Hid (Below w.heap.size w wr)∧Hid (w1.heap.size+1≤wr.heap.size)) (fun i _=>l.length-(intOf i).toNat)
 case atStart=>exact ⟨0,_,by omega,rfl,Hd (l8 _ _ _),R1,Z1,B1,Hd (by rw [World.size_alloc];omega)⟩
 case round =>
  clear R1 Z1 B1
  obtain ⟨w2,rfl⟩:∃ w2,w2=wr:=⟨wr,rfl⟩
  obtain ⟨k,row,hk,rfl,HS,R2,Z2,B2,HZ⟩:=hrel
  have hlr:=Hd (show (Tryz.prog.info? 34).map (·.size)=some row.length by rw [HS.out.1];kernel_rfl)
  have hlr2:=Hd (show (Tryz.prog.info? 34).map (·.size)=some row.toArray.size by rw [List.size_toArray,HS.out.1];kernel_rfl)
  by_cases hlt:k<l.length
  case neg =>
   obtain rfl:k=l.length:=by omega
   have HX:=Hd (show bV w.heap.size N (aX l) row (w2.setRow w.heap.size row.toArray) from by
    have h:=HS.out
    rw [List.take_length] at h
    exact (h.keep (eT (by omega) _)).wide (by omega))
   go_wp2_with (first
    | ((with_reducible show wpList _ _ _ (⟨some 37,_,_,_,_,_⟩::_) _ _);refine wpList_load_mid rfl 34 _ rfl w1.heap.size 0 rfl row _ R2.out.range Tryz.underlying34 rfl hlr.out ?_)
    | ((with_reducible show wpList _ _ _ (⟨none,.store 34 (.tmp 2) (.tmp 37),_,_,_,_⟩::_) _ _);refine aD rfl 34 _ _ rfl w.heap.size 0 row rfl rfl 34 ai row Z2.out hlr.out (by rw [HS.out.1];simp [ai]) (by rw [HS.out.1];simp [ai]) HS.out.2.1 ?_))
   refine bodyPost_ret (results_cell_row rfl _ _ w.heap.size 34 row.toArray (0,0) _ rfl (Z2.out.setRow _) Tryz.underlying34 rfl hlr2.out) rfl ?_
   exact ⟨row,rfl,HX.out,below_setRow B2.out (Nat.le_refl _) _⟩
  obtain ⟨b,o,rfl,hb,hget⟩:=HA.out.get (by intro h;rw [h] at hlt;simp at hlt)
  obtain ⟨hkz,g1⟩:=hget k hlt
  have hpr:=HP.out l[k] (List.getElem_mem hlt)
  have hstep:=mh hlt
  obtain ⟨s,hs⟩:∃ s,l[k]=s:=⟨_,rfl⟩
  rw [hs] at hkz g1 hpr hstep
  have HST:=Hd hstep
  have HPR:=Hd hpr
  obtain ⟨se,hse⟩:∃ v,s.each=v:=⟨_,rfl⟩
  obtain ⟨sb,hsb⟩:∃ v,s.byIdx=v:=⟨_,rfl⟩
  obtain ⟨sk,hsk⟩:∃ v,s.key=v:=⟨_,rfl⟩
  obtain ⟨si,hsi⟩:∃ v,s.index=v:=⟨_,rfl⟩
  have HSE:=Hd hse
  have HSB:=Hd hsb
  have HSK:=Hd hsk
  have HSI:=Hd hsi
  have HG:=Hd (show aj w2 b (o+k * 4) [.bool se,.bool sb,.string sk,.int .i64 si] by
   have:=g1.below (B2.out.mono hB) hb
   rwa [po,hse,hsb,hsk,hsi] at this)
  have hkn:=Hd (show sk.size≤N by rw [← hsk];exact hkz)
  have T5:=Hd (aq.new w2 94 [.bool se,.bool sb,.string sk,.int .i64 si])
  have d0:=T5.out.cell (j:=0) (v:=.bool se) rfl
  have d1:=T5.out.cell (j:=1) (v:=.bool sb) rfl
  have d2:=T5.out.cell (j:=2) (v:=.string sk) rfl
  have d3:=T5.out.cell (j:=3) (v:=.int .i64 si) rfl
  have hus:=Hd (World.size_alloc w2 (.cells #[.bool se,.bool sb,.string sk,.int .i64 si] 94))
  have BU:=Hd (show Below w.heap.size w (w2.alloc (.cells #[.bool se,.bool sb,.string sk,.int .i64 si] 94)) from ae B2.out (af w2 _))
  have SU:=Hd (HS.out.below (af w2 (.cells #[.bool se,.bool sb,.string sk,.int .i64 si] 94)))
  have RU:=Hd (R2.out.alloc (.cells #[.bool se,.bool sb,.string sk,.int .i64 si] 94))
  have ZU:=Hd (Z2.out.alloc (.cells #[.bool se,.bool sb,.string sk,.int .i64 si] 94))
  have hLu:=Hd (show w1.heap.size+1≤(w2.alloc (.cells #[.bool se,.bool sb,.string sk,.int .i64 si] 94)).heap.size by have:=HZ.out;rw [hus.out];omega)
  have hNm:=Hd (show 2≤N by omega)
  have hlen:=HS.out.1
  have hfz:=dk row zE0 (by rw [HS.out.1];rfl)
  clear hs hse hsb hsk hsi g1 hget hkz hpr hstep
  cases se
  case true =>
   have HN:=Hd (show bV (w1.heap.size+1) N (aX (l.take (k+1))) (aT 8 ⟨#[]⟩ (.slice (some ⟨w2.heap.size+1,0,none⟩) 1 1)) ((w2.alloc (.cells #[.bool true,.bool sb,.string sk,.int .i64 si] 94)).alloc (.cells row.toArray 34)) by
    rw [HST.out,lF HSE.out]
    have:=SU.out.one hLu.out (op:=8) (op_n:=8) (nm:=⟨#[]⟩) rfl (by decide) (Nat.zero_le _) hNm.out
    rwa [hus.out] at this)
   have B9:=Hd (show Below w.heap.size w (((w2.alloc (.cells #[.bool true,.bool sb,.string sk,.int .i64 si] 94)).alloc (.cells row.toArray 34)).setRow w1.heap.size (aT 8 ⟨#[]⟩ (.slice (some ⟨w2.heap.size+1,0,none⟩) 1 1)).toArray) from below_setRow (ae BU.out (af _ _)) (by omega) _)
   go_wp2_with (first
    | ((with_reducible show wpList _ _ _ (⟨some 12,_,_,_,_,_⟩::_) _ _);refine wpList_load_mid rfl 94 _ rfl b (o+k * 4) rfl [.bool true,.bool sb,.string sk,.int .i64 si] _ HG.out.range Tryz.underlying94 rfl cP ?_)
    | ((with_reducible show wpList _ _ _ (⟨some 22,_,_,_,_,_⟩::_) _ _);refine wpList_load_mid rfl 34 _ rfl w1.heap.size 0 rfl row _ RU.out.range Tryz.underlying34 rfl hlr.out ?_)
    | ((with_reducible show wpList _ _ _ (⟨none,.store 34 (.tmp 3) (.tmp 24),_,_,_,_⟩::_) _ _);refine aD rfl 34 _ _ rfl w1.heap.size 0 (aT 8 ⟨#[]⟩ (.slice (some ⟨w2.heap.size+1,0,none⟩) 1 1)) rfl rfl 34 row (aT 8 ⟨#[]⟩ (.slice (some ⟨w2.heap.size+1,0,none⟩) 1 1)) (RU.out.alloc _) (by kernel_rfl) (eQ HS.out.1 rfl) (eR HS.out.1 rfl) (bw _ _ rfl) ?_))
   go_roundw
   case rel=>exact ⟨k+1,_,by omega,by go_num,Hd (HN.out.keep (eT (by omega) _)),Hd ((RU.out.alloc _).setRow _),Hd ((ZU.out.alloc _).setRowOther (by omega) _),B9,Hd (by have:=HZ.out;rw [setRow_size,World.size_alloc,hus.out];omega)⟩
   case measure=>simp [intOf];omega
  cases sb
  case false =>
   have HN:=Hd (show bV (w1.heap.size+1) N (aX (l.take (k+1))) (aT 5 sk (.slice (some ⟨w2.heap.size+1,0,none⟩) 1 1)) ((w2.alloc (.cells #[.bool false,.bool false,.string sk,.int .i64 si] 94)).alloc (.cells row.toArray 34)) by
    rw [HST.out,mZ HSE.out HSB.out,HSK.out]
    have:=SU.out.one hLu.out (op:=5) (op_n:=5) (nm:=sk) rfl (by decide) hkn.out hNm.out
    rwa [hus.out] at this)
   have B9:=Hd (show Below w.heap.size w (((w2.alloc (.cells #[.bool false,.bool false,.string sk,.int .i64 si] 94)).alloc (.cells row.toArray 34)).setRow w1.heap.size (aT 5 sk (.slice (some ⟨w2.heap.size+1,0,none⟩) 1 1)).toArray) from below_setRow (ae BU.out (af _ _)) (by omega) _)
   go_wp2_with (first
    | ((with_reducible show wpList _ _ _ (⟨some 12,_,_,_,_,_⟩::_) _ _);refine wpList_load_mid rfl 94 _ rfl b (o+k * 4) rfl [.bool false,.bool false,.string sk,.int .i64 si] _ HG.out.range Tryz.underlying94 rfl cP ?_)
    | ((with_reducible show wpList _ _ _ (⟨some 16,_,_,_,_,_⟩::_) _ _);refine wpList_load_mid rfl 34 _ rfl w1.heap.size 0 rfl row _ RU.out.range Tryz.underlying34 rfl hlr.out ?_)
    | ((with_reducible show wpList _ _ _ (⟨none,.store 34 (.tmp 3) (.tmp 18),_,_,_,_⟩::_) _ _);refine aD rfl 34 _ _ rfl w1.heap.size 0 (aT 5 sk (.slice (some ⟨w2.heap.size+1,0,none⟩) 1 1)) rfl rfl 34 row (aT 5 sk (.slice (some ⟨w2.heap.size+1,0,none⟩) 1 1)) (RU.out.alloc _) (by kernel_rfl) (eQ HS.out.1 rfl) (eR HS.out.1 rfl) (bw _ _ rfl) ?_))
   go_roundw
   case rel=>exact ⟨k+1,_,by omega,by go_num,Hd (HN.out.keep (eT (by omega) _)),Hd ((RU.out.alloc _).setRow _),Hd ((ZU.out.alloc _).setRowOther (by omega) _),B9,Hd (by have:=HZ.out;rw [setRow_size,World.size_alloc,hus.out];omega)⟩
   case measure=>simp [intOf];omega
  obtain ⟨hix0,hix1⟩:=lO HSE.out HSB.out HPR.out
  rw [HSI.out] at hix0 hix1
  obtain ⟨n,hn⟩:∃ n:Nat,si=(n:Int):=⟨si.toNat,by omega⟩
  subst hn
  have hn16:n≤65536:=by omega
  have HIX:=Hd (show s.index.toNat=n by rw [HSI.out];exact Int.toNat_natCast n)
  clear hix0 hix1 hfz
  obtain ⟨u0,hu0⟩:∃ u0,u0=w2.alloc (.cells #[.bool false,.bool true,.string sk,.int .i64 n] 94):=⟨_,rfl⟩
  rw [← hu0] at T5 BU SU RU ZU hLu hus d0 d1 d2 d3
  have HU0:=Hd hu0
  have hN20:=Hd hN1
  clear hu0
  go_wp2_with ((with_reducible show wpList _ _ _ (⟨some 12,_,_,_,_,_⟩::_) _ _);refine wpList_load_mid rfl 94 _ rfl b (o+k * 4) rfl [.bool false,.bool true,.string sk,.int .i64 n] _ HG.out.range Tryz.underlying94 rfl cP ?_)
  rw [← HU0.out]
  refine wp_region_held_drew (S:=fun wu=>Below w.heap.size u0 wu∧aq 94 wu w2.heap.size [.bool false,.bool true,.string sk,.int .i64 n]) (by kernel_rfl) ⟨(b7 u0).mono BU.out.size,T5.out⟩ (fun hHeld=>?_)
  refine' tk 1 (.pointer (some ⟨w2.heap.size,1,none⟩)) rfl rfl (.inl ⟨by rfl,fun u hu=>(by go_simp)⟩) hHeld ?_
  simp only [sq1,sq0]
  refine' tk 2 (.pointer (some ⟨w2.heap.size,3,none⟩)) rfl rfl (.inl ⟨by rfl,fun u hu=>(by go_simp)⟩) hHeld ?_
  simp only [sq1,sq0]
  refine' tk 3 (.int .i64 n) rfl rfl (.inl ⟨by rfl,fun u hu=>(by have hc:=hu.2.cell (j:=3) (v:=.int .i64 n) rfl;go_simp)⟩) hHeld ?_
  simp only [sq1,sq0]
  refine wpAnyH_ready (rs:=[0,4]) (by kernel_rfl) (by simp) ?_
  refine AllReadyH.cons rfl (fun K hK=>?_) (AllReadyH.cons rfl (fun K hK=>?_) AllReadyH.nil)
  ·rw [if_pos (by kernel_rfl)]
   refine wp_load_mid 34 _ rfl w1.heap.size 0 rfl row _ (RU.out.drew).range Tryz.underlying34 rfl hlr.out ?_
   simp only [List.getElem_toArray,List.getElem_cons_zero,Act.put]
   refine hK.out _ _ hHeld (fun hHeld1=>?_)
   clear hK K hHeld1
   refine rd1 4 rfl (fun K hK=>?_)
   go_simp
   refine (ny n hn16 _).mono ?_
   rintro e uC ⟨rfl,hbC⟩
   have hC:Below u0.heap.size u0 uC:=(b7 u0).trans hbC
   refine hK.out _ _ ⟨hC.mono BU.out.size,T5.out.then hC⟩ (fun hHeld1=>?_)
   clear hK K hHeld1
   have RC:=Hd (RU.out.then hC)
   have ZC:=Hd (ZU.out.then hC)
   have BC:=Hd (ae BU.out hC)
   have SC:=Hd (SU.out.below hC)
   have TC:=Hd (T5.out.then hC)
   have hLC:=Hd (show w1.heap.size+1≤uC.heap.size from Nat.le_trans hLu.out hC.size)
   have hsC:=Hd (show w2.heap.size<uC.heap.size from TC.out.lt)
   have HC:=Hd hC
   clear hbC hC hHeld
   refine rd1 5 rfl (fun K hK=>?_)
   rw [if_pos (by kernel_rfl)]
   refine eo [row,eS n] _ rfl 2 _ rfl rfl (by decide) (by decide) (by intro r hr;simp at hr;rcases hr with rfl | rfl;exact HS.out.1;rfl) (by rw [List.map_toArray];rfl) ?_
   simp only [List.getElem_toArray,List.getElem_cons_succ,List.getElem_cons_zero,Act.put]
   have BD:=Hd (show Below w.heap.size u0 (uC.alloc (.cells [row,eS n].flatten.toArray 34)) from (HC.out.mono BU.out.size).alloc (by have:=hLC.out;omega) _)
   refine hK.out _ _ ⟨BD.out,TC.out.alloc _⟩ (fun hHeld1=>?_)
   clear hK K hHeld1
   refine rd1 6 rfl (fun K hK=>?_)
   go_simp
   refine hK.out _ _ ⟨BD.out,TC.out.alloc _⟩ (fun hHeld1=>?_)
   clear hK K hHeld1
   refine rd1 7 rfl (fun K hK=>?_)
   rw [if_pos (by kernel_rfl)]
   refine bn 34 _ _ rfl w1.heap.size 0 (aT 6 ⟨#[]⟩ (.slice (some ⟨uC.heap.size,0,none⟩) 2 2)) rfl rfl 34 row (aT 6 ⟨#[]⟩ (.slice (some ⟨uC.heap.size,0,none⟩) 2 2)) (RC.out.alloc _) (by kernel_rfl) (eQ HS.out.1 rfl) (eR HS.out.1 rfl) (bw _ _ rfl) ?_
   simp only [List.getElem_toArray,List.getElem_cons_succ,List.getElem_cons_zero,Act.put]
   refine hK.out _ _ ⟨below_setRow BD.out (by have:=B2.out.size;have:=hLC.out;omega) _,(TC.out.alloc _).setRowOther (by have:=R2.out.lt;omega) _⟩ (fun hHeld1=>?_)
   clear hK K hHeld1
   refine wpAnyH_done (by kernel_rfl) ?_ _
   have HN:=Hd (show bV (w1.heap.size+1) N (aX (l.take (k+1))) (aT 6 ⟨#[]⟩ (.slice (some ⟨uC.heap.size,0,none⟩) 2 2)) (uC.alloc (.cells [row,eS n].flatten.toArray 34)) by
    rw [HST.out,ki HSE.out HSB.out,HIX.out,show [row,eS n].flatten=row++eS n by simp]
    exact SC.out.two (l3 _ N n uC hn16 hN20.out) hLC.out (op:=6) (op_n:=6) (nm:=⟨#[]⟩) rfl (by decide) (Nat.zero_le _) hNm.out)
   have B9:=Hd (show Below w.heap.size w ((uC.alloc (.cells [row,eS n].flatten.toArray 34)).setRow w1.heap.size (aT 6 ⟨#[]⟩ (.slice (some ⟨uC.heap.size,0,none⟩) 2 2)).toArray) from below_setRow (ae BC.out (af _ _)) (by omega) _)
   go_wp2_with fail
   go_roundw
   case rel=>exact ⟨k+1,_,by omega,by go_num,Hd (HN.out.keep (eT (by omega) _)),Hd ((RC.out.alloc _).setRow _),Hd ((ZC.out.alloc _).setRowOther (by omega) _),B9,Hd (by have:=hLC.out;rw [setRow_size,World.size_alloc];omega)⟩
   case measure=>simp [intOf];omega
  ·go_simp
   refine (ny n hn16 _).mono ?_
   rintro e uC ⟨rfl,hbC⟩
   have hC:Below u0.heap.size u0 uC:=(b7 u0).trans hbC
   refine hK.out _ _ ⟨hC.mono BU.out.size,T5.out.then hC⟩ (fun hHeld1=>?_)
   clear hK K hHeld1
   refine rd1 0 rfl (fun K hK=>?_)
   rw [if_pos (by kernel_rfl)]
   refine wp_load_mid 34 _ rfl w1.heap.size 0 rfl row _ (RU.out.then hC).range Tryz.underlying34 rfl hlr.out ?_
   simp only [List.getElem_toArray,List.getElem_cons_zero,Act.put]
   refine hK.out _ _ ⟨hC.mono BU.out.size,T5.out.then hC⟩ (fun hHeld1=>?_)
   clear hK K hHeld1
   have RC:=Hd (RU.out.then hC)
   have ZC:=Hd (ZU.out.then hC)
   have BC:=Hd (ae BU.out hC)
   have SC:=Hd (SU.out.below hC)
   have TC:=Hd (T5.out.then hC)
   have hLC:=Hd (show w1.heap.size+1≤uC.heap.size from Nat.le_trans hLu.out hC.size)
   have hsC:=Hd (show w2.heap.size<uC.heap.size from TC.out.lt)
   have HC:=Hd hC
   clear hbC hC hHeld
   refine rd1 5 rfl (fun K hK=>?_)
   rw [if_pos (by kernel_rfl)]
   refine eo [row,eS n] _ rfl 2 _ rfl rfl (by decide) (by decide) (by intro r hr;simp at hr;rcases hr with rfl | rfl;exact HS.out.1;rfl) (by rw [List.map_toArray];rfl) ?_
   simp only [List.getElem_toArray,List.getElem_cons_succ,List.getElem_cons_zero,Act.put]
   have BD:=Hd (show Below w.heap.size u0 (uC.alloc (.cells [row,eS n].flatten.toArray 34)) from (HC.out.mono BU.out.size).alloc (by have:=hLC.out;omega) _)
   refine hK.out _ _ ⟨BD.out,TC.out.alloc _⟩ (fun hHeld1=>?_)
   clear hK K hHeld1
   refine rd1 6 rfl (fun K hK=>?_)
   go_simp
   refine hK.out _ _ ⟨BD.out,TC.out.alloc _⟩ (fun hHeld1=>?_)
   clear hK K hHeld1
   refine rd1 7 rfl (fun K hK=>?_)
   rw [if_pos (by kernel_rfl)]
   refine bn 34 _ _ rfl w1.heap.size 0 (aT 6 ⟨#[]⟩ (.slice (some ⟨uC.heap.size,0,none⟩) 2 2)) rfl rfl 34 row (aT 6 ⟨#[]⟩ (.slice (some ⟨uC.heap.size,0,none⟩) 2 2)) (RC.out.alloc _) (by kernel_rfl) (eQ HS.out.1 rfl) (eR HS.out.1 rfl) (bw _ _ rfl) ?_
   simp only [List.getElem_toArray,List.getElem_cons_succ,List.getElem_cons_zero,Act.put]
   refine hK.out _ _ ⟨below_setRow BD.out (by have:=B2.out.size;have:=hLC.out;omega) _,(TC.out.alloc _).setRowOther (by have:=R2.out.lt;omega) _⟩ (fun hHeld1=>?_)
   clear hK K hHeld1
   refine wpAnyH_done (by kernel_rfl) ?_ _
   have HN:=Hd (show bV (w1.heap.size+1) N (aX (l.take (k+1))) (aT 6 ⟨#[]⟩ (.slice (some ⟨uC.heap.size,0,none⟩) 2 2)) (uC.alloc (.cells [row,eS n].flatten.toArray 34)) by
    rw [HST.out,ki HSE.out HSB.out,HIX.out,show [row,eS n].flatten=row++eS n by simp]
    exact SC.out.two (l3 _ N n uC hn16 hN20.out) hLC.out (op:=6) (op_n:=6) (nm:=⟨#[]⟩) rfl (by decide) (Nat.zero_le _) hNm.out)
   have B9:=Hd (show Below w.heap.size w ((uC.alloc (.cells [row,eS n].flatten.toArray 34)).setRow w1.heap.size (aT 6 ⟨#[]⟩ (.slice (some ⟨uC.heap.size,0,none⟩) 2 2)).toArray) from below_setRow (ae BC.out (af _ _)) (by omega) _)
   go_wp2_with fail
   go_roundw
   case rel=>exact ⟨k+1,_,by omega,by go_num,Hd (HN.out.keep (eT (by omega) _)),Hd ((RC.out.alloc _).setRow _),Hd ((ZC.out.alloc _).setRowOther (by omega) _),B9,Hd (by have:=hLC.out;rw [setRow_size,World.size_alloc];omega)⟩
   case measure=>simp [intOf];omega
end Go.Proofs.YtiefeajappjnbaaGreatDoor
