/- The reference's canonical text (layer 10) of what is no list and no map (printed by gencan.py). -/
import Derived.Test.YtniljgkkcnekgaaGreatDoorProg
import Derived.Test.YtniljgkkcnekgaaGreatDoorGA
import Derived.Test.YtniljgkkcnekgaaGreatDoorGB
import Derived.Test.YtniljgkkcnekgaaGreatDoorGD
import Derived.Test.YtniljgkkcnekgaaGreatDoorGC
import Derived.Test.YtniljgkkcnekgaaGreatDoorGZ
import Derived.Test.YtniljgkkcnekgaaGreatDoorGT
import Derived.Test.YtniljgkkcnekgaaGreatDoorBL
import Derived.Test.YtniljgkkcnekgaaGreatDoorCN
import Derived.Test.YtniljgkkcnekgaaGreatDoorEnb41
import Derived.Test.YtniljgkkcnekgaaGreatDoorGR
import Derived.Test.YtniljgkkcnekgaaGreatDoorWR
import Derived.Test.YtniljgkkcnekgaaGreatDoorTis41
import Derived.Test.YtniljgkkcnekgaaGreatDoorNur36
import Derived.Test.YtniljgkkcnekgaaGreatDoorNuh41
namespace Go.Proofs.YtniljgkkcnekgaaGreatDoor
namespace Stb
end Stb
open Go.RowKit Stb
theorem rtextAny (d:DecD) (hv:VDec d) (w:World):Calls Tryz.prog 37 #[.agg #[.bool d.neg,.string d.digits,.int .i64 d.exp]] w (StrB (numT d) w):=by
 obtain ⟨n,s,x⟩:=d
 cases n
 ·exact rtext s x hv w
 ·exact rtext_neg s x hv w
theorem strOf_nums (s:ByteArray):strOfNums (nums s)=s:=by
 apply ByteArray.ext
 apply Array.ext'
 rw [strOfNums_data]
 unfold nums
 rw [List.map_map]
 conv=>rhs;rw [← List.map_id s.data.toList]
 refine List.map_congr_left fun x _=>?_
 show UInt8.ofNat ((x.toNat:Int)).toNat=x
 rw [Int.toNat_natCast,UInt8.ofNat_toNat]
def plainL (l:List Int):Prop:=∀ c∈l,32≤c∧c≤255∧c≠34∧c≠92
theorem esc_plain:∀ {l:List Int},plainL l→escL l=l
 | [],_=>rfl
 | c::r,h=>by
   obtain ⟨h1,h2,h3,h4⟩:=h c (List.mem_cons_self ..)
   have e:escB c=[c]:=by unfold escB;rw [if_neg h3,if_neg h4,if_neg (by omega),if_neg (by omega),if_neg (by omega),if_neg (by omega),if_neg (by omega),if_neg (by omega)]
   rw [escL,e,esc_plain fun x hx=>h x (List.mem_cons_of_mem _ hx)]
   rfl
theorem plain_app {a b:List Int} (h:plainL a) (k:plainL b):plainL (a++b):=fun c hc=>(List.mem_append.1 hc).elim (h c) (k c)
theorem plain_pad (n wd:Nat):plainL (nums (pdS n wd)):=by
 intro c hc
 unfold pdS at hc
 rw [nums_strOf fun x hx=>by have:=padT_dig wd n x hx;omega] at hc
 have:=padT_dig wd n c hc
 omega
theorem plain_lit (l:List UInt8) (h:∀ x∈l,32≤x.toNat∧x.toNat≠34∧x.toNat≠92):plainL (nums ⟨l.toArray⟩):=by
 intro c hc
 obtain ⟨x,hx,rfl⟩:=List.mem_map.1 hc
 have h1:=h x (by simpa using hx)
 have h2:=UInt8.toNat_lt x
 omega
theorem plain_date (n:Nat):plainL (nums (dateS n)):=by
 unfold dateS
 simp only [nums_app]
 exact plain_app (plain_app (plain_app (plain_app (plain_pad _ _) (plain_lit [45] (by decide))) (plain_pad _ _)) (plain_lit [45] (by decide))) (plain_pad _ _)
theorem plain_hms (n:Nat):plainL (nums (hmsS n)):=by
 unfold hmsS
 simp only [nums_app]
 exact plain_app (plain_app (plain_app (plain_app (plain_pad _ _) (plain_lit [58] (by decide))) (plain_pad _ _)) (plain_lit [58] (by decide))) (plain_pad _ _)
theorem cutZ_mem {l:List Int} {c:Int} (h:c∈cutZ l):c∈l:=by
 unfold cutZ at h
 exact List.mem_reverse.1 ((List.dropWhile_sublist _).mem (List.mem_reverse.1 h))
theorem plain_clock (n:Nat):plainL (nums (clockS n)):=by
 unfold clockS
 split
 ·exact plain_hms n
 ·simp only [nums_app]
  refine plain_app (plain_app (plain_hms n) (plain_lit [46] (by decide))) fun c hc=>?_
  have hd:∀ x∈fracL n,48≤x∧x≤57:=fun x hx=>padT_dig 9 _ x (cutZ_mem hx)
  rw [nums_strOf fun x hx=>by have:=hd x hx;omega] at hc
  have:=hd c hc
  omega
theorem plain_off (o:Int):plainL (nums (offS o)):=by
 unfold offS
 split
 ·exact plain_lit [90] (by decide)
 ·simp only [nums_app]
  refine plain_app (plain_app (plain_app ?_ (plain_pad _ _)) (plain_lit [58] (by decide))) (plain_pad _ _)
  split
  ·exact plain_lit [45] (by decide)
  ·exact plain_lit [43] (by decide)
theorem plain_time (t:TimeD):plainL (nums (timeS t)):=by
 unfold timeS
 split
 ·exact plain_date _
 split
 ·exact plain_clock _
 split
 ·simp only [nums_app]
  exact plain_app (plain_app (plain_date _) (plain_lit [84] (by decide))) (plain_clock _)
 ·simp only [nums_app]
  exact plain_app (plain_app (plain_app (plain_date _) (plain_lit [84] (by decide))) (plain_clock _)) (plain_off _)
theorem plain_b64 (l:List Int):plainL (b64S l):=by
 intro c hc
 obtain ⟨k,_,rfl⟩:=List.mem_map.1 hc
 unfold chrN
 split
 ·have ha:∀ x∈b64L,32≤x∧x≤255∧x≠34∧x≠92:=by decide
  have hd:=dg6N_lt l k
  unfold b64D
  rw [List.getD_eq_getElem?_getD,List.getElem?_eq_getElem hd]
  exact ha _ (List.getElem_mem hd)
 ·decide
theorem quote_plain {s:ByteArray} (h:plainL (nums s)):quoteS s=strOfNums (34::(nums s++[34])):=by
 unfold quoteS
 rw [esc_plain h]
set_option maxRecDepth 100000 in
set_option maxHeartbeats 6400000 in
theorem can_0 {m:Nat} (w:World) (B N:Nat) (v:ValD) (cs:List Value) (hN:N≤4294967296) (hok:okK (m+1) v) (hB:B≤w.heap.size) (hv:ValD.At w B N v cs) (hl:(canC (m+1) v).length≤140737480000000) (hk:v.kind=0):Calls Tryz.prog 23 #[.agg cs.toArray] w (StrB (strOfNums (canC (m+1) v)) w):=by
 have hq:=And.intro hN (And.intro hB hl);clear hq
 obtain ⟨ya,la,va,yc,lc,vc,hh⟩:=hv.has
 have R0:=Hd (RowT.new w 39 cs)
 have H1:=Hd (belowBox w (.cells cs.toArray 39))
 have HH:=Hd hh
 have HOK:=Hd hok
 have e0:=R0.out.cell HH.out.kind
 rw [hk] at e0
 have hcan:canC (m+1) v=[110,117,108,108]:=by rw [canC];rw [if_neg (by omega)];unfold bodyT;rw [if_pos hk]
 have HR:=Hd (show strOfNums (canC (m+1) v)=⟨#[110,117,108,108]⟩ by rw [hcan];rfl)
 clear hh hok hN hB hv hl hk hcan
 go_enter Tryz.func23,Tryz.ntmps23
 go_wp2_with fail
 go_ret
 exact ⟨by rw [HR.out];rfl,H1.out⟩
set_option maxRecDepth 100000 in
set_option maxHeartbeats 6400000 in
theorem can_1t {m:Nat} (w:World) (B N:Nat) (v:ValD) (cs:List Value) (hN:N≤4294967296) (hok:okK (m+1) v) (hB:B≤w.heap.size) (hv:ValD.At w B N v cs) (hl:(canC (m+1) v).length≤140737480000000) (hk:v.kind=1) (hb:v.bool=true):Calls Tryz.prog 23 #[.agg cs.toArray] w (StrB (strOfNums (canC (m+1) v)) w):=by
 have hq:=And.intro hN (And.intro hB hl);clear hq
 obtain ⟨ya,la,va,yc,lc,vc,hh⟩:=hv.has
 have R0:=Hd (RowT.new w 39 cs)
 have H1:=Hd (belowBox w (.cells cs.toArray 39))
 have HH:=Hd hh
 have HOK:=Hd hok
 have e0:=R0.out.cell HH.out.kind
 rw [hk] at e0
 have hcan:canC (m+1) v=[116,114,117,101]:=by rw [canC];rw [if_neg (by omega)];unfold bodyT;rw [if_neg (by omega),if_pos hk,if_pos hb]
 have HR:=Hd (show strOfNums (canC (m+1) v)=⟨#[116,114,117,101]⟩ by rw [hcan];rfl)
 have e1:=R0.out.cell HH.out.bool
 rw [show v.bool=true by exact hb] at e1
 clear hh hok hN hB hv hl hk hcan hb
 go_enter Tryz.func23,Tryz.ntmps23
 go_wp2_with fail
 go_ret
 exact ⟨by rw [HR.out];rfl,H1.out⟩
set_option maxRecDepth 100000 in
set_option maxHeartbeats 6400000 in
theorem can_1f {m:Nat} (w:World) (B N:Nat) (v:ValD) (cs:List Value) (hN:N≤4294967296) (hok:okK (m+1) v) (hB:B≤w.heap.size) (hv:ValD.At w B N v cs) (hl:(canC (m+1) v).length≤140737480000000) (hk:v.kind=1) (hb:¬ v.bool=true):Calls Tryz.prog 23 #[.agg cs.toArray] w (StrB (strOfNums (canC (m+1) v)) w):=by
 have hq:=And.intro hN (And.intro hB hl);clear hq
 obtain ⟨ya,la,va,yc,lc,vc,hh⟩:=hv.has
 have R0:=Hd (RowT.new w 39 cs)
 have H1:=Hd (belowBox w (.cells cs.toArray 39))
 have HH:=Hd hh
 have HOK:=Hd hok
 have e0:=R0.out.cell HH.out.kind
 rw [hk] at e0
 have hcan:canC (m+1) v=[102,97,108,115,101]:=by rw [canC];rw [if_neg (by omega)];unfold bodyT;rw [if_neg (by omega),if_pos hk,if_neg hb]
 have HR:=Hd (show strOfNums (canC (m+1) v)=⟨#[102,97,108,115,101]⟩ by rw [hcan];rfl)
 have e1:=R0.out.cell HH.out.bool
 rw [show v.bool=false by cases h:v.bool;rfl;exact absurd h hb] at e1
 clear hh hok hN hB hv hl hk hcan hb
 go_enter Tryz.func23,Tryz.ntmps23
 go_wp2_with fail
 go_ret
 exact ⟨by rw [HR.out];rfl,H1.out⟩
set_option maxRecDepth 100000 in
set_option maxHeartbeats 6400000 in
theorem can_2 {m:Nat} (w:World) (B N:Nat) (v:ValD) (cs:List Value) (hN:N≤4294967296) (hok:okK (m+1) v) (hB:B≤w.heap.size) (hv:ValD.At w B N v cs) (hl:(canC (m+1) v).length≤140737480000000) (hk:v.kind=2):Calls Tryz.prog 23 #[.agg cs.toArray] w (StrB (strOfNums (canC (m+1) v)) w):=by
 have hq:=And.intro hN (And.intro hB hl);clear hq
 obtain ⟨ya,la,va,yc,lc,vc,hh⟩:=hv.has
 have R0:=Hd (RowT.new w 39 cs)
 have H1:=Hd (belowBox w (.cells cs.toArray 39))
 have HH:=Hd hh
 have HOK:=Hd hok
 have e0:=R0.out.cell HH.out.kind
 rw [hk] at e0
 have hcan:canC (m+1) v=nums (numT v.num):=by rw [canC];rw [if_neg (by omega)];unfold bodyT;rw [if_neg (by omega),if_neg (by omega),if_pos hk]
 have HR:=Hd (show strOfNums (canC (m+1) v)=numT v.num by rw [hcan,strOf_nums])
 have HT:=Hd (fun u=>rtextAny v.num hok.1.2.1 u)
 have e1:=R0.out.cell HH.out.neg
 have e2:=R0.out.cell HH.out.digits
 have e3:=R0.out.cell HH.out.exp
 obtain ⟨t,ht⟩:∃ t,numT v.num=t:=⟨_,rfl⟩
 rw [ht] at HR HT
 clear hh hok hN hB hv hl hk hcan ht
 go_enter Tryz.func23,Tryz.ntmps23
 go_wp2_with fail
 refine (HT.out _).mono ?_
 rintro e w3 ⟨rfl,hb3⟩
 have H3:=Hd (belowThen H1.out hb3)
 clear hb3
 go_wp2_with fail
 go_ret
 exact ⟨by rw [HR.out];rfl,H3.out⟩
set_option maxRecDepth 100000 in
set_option maxHeartbeats 6400000 in
theorem can_3 {m:Nat} (w:World) (B N:Nat) (v:ValD) (cs:List Value) (hN:N≤4294967296) (hok:okK (m+1) v) (hB:B≤w.heap.size) (hv:ValD.At w B N v cs) (hl:(canC (m+1) v).length≤140737480000000) (hk:v.kind=3):Calls Tryz.prog 23 #[.agg cs.toArray] w (StrB (strOfNums (canC (m+1) v)) w):=by
 have hq:=And.intro hN (And.intro hB hl);clear hq
 obtain ⟨ya,la,va,yc,lc,vc,hh⟩:=hv.has
 have R0:=Hd (RowT.new w 39 cs)
 have H1:=Hd (belowBox w (.cells cs.toArray 39))
 have HH:=Hd hh
 have HOK:=Hd hok
 have e0:=R0.out.cell HH.out.kind
 rw [hk] at e0
 have hcan:canC (m+1) v=[116,34]++nums (timeS v.time)++[34]:=by rw [canC];rw [if_neg (by omega)];unfold bodyT;rw [if_neg (by omega),if_neg (by omega),if_neg (by omega),if_pos hk]
 have HR:=Hd (show strOfNums (canC (m+1) v)=⟨#[116]⟩++quoteS (timeS v.time) by rw [hcan,quote_plain (plain_time _)];exact strNums_app [116] (34::(nums (timeS v.time)++[34])))
 have HT:=Hd (fun u=>ttext_r v.time (hok.1.2.2.1 hk) u)
 have hz:=timeS_size v.time
 have hz2:=quoteS_size (timeS v.time)
 have HQ:=Hd (fun u=>quoted_r (timeS v.time) u (by omega))
 have e1:=R0.out.cell HH.out.tkind
 have e2:=R0.out.cell HH.out.day
 have e3:=R0.out.cell HH.out.nano
 have e4:=R0.out.cell HH.out.offset
 obtain ⟨q,hq⟩:∃ q,quoteS (timeS v.time)=q:=⟨_,rfl⟩
 rw [hq] at HR HQ hz2
 obtain ⟨t,ht⟩:∃ t,timeS v.time=t:=⟨_,rfl⟩
 rw [ht] at HT HQ hz hz2
 have hz3:q.size≤300:=by omega
 have q1:(⟨#[116]⟩:ByteArray).size+q.size≤9223372036854775807:=by show 1+q.size≤_;omega
 clear hh hok hN hB hv hl hk hcan ht hq hz hz2
 go_enter Tryz.func23,Tryz.ntmps23
 go_wp2_with fail
 refine (HT.out _).mono ?_
 rintro e w3 ⟨rfl,hb3⟩
 have H3:=Hd (belowThen H1.out hb3)
 clear hb3
 go_wp2_with fail
 refine (HQ.out _).mono ?_
 rintro e w4 ⟨rfl,hb4⟩
 have H4:=Hd (belowThen H3.out hb4)
 clear hb4
 go_wp2_with fail
 go_ret
 exact ⟨by rw [HR.out];rfl,H4.out⟩
set_option maxRecDepth 100000 in
set_option maxHeartbeats 6400000 in
theorem can_4 {m:Nat} (w:World) (B N:Nat) (v:ValD) (cs:List Value) (hN:N≤4294967296) (hok:okK (m+1) v) (hB:B≤w.heap.size) (hv:ValD.At w B N v cs) (hl:(canC (m+1) v).length≤140737480000000) (hk:v.kind=4):Calls Tryz.prog 23 #[.agg cs.toArray] w (StrB (strOfNums (canC (m+1) v)) w):=by
 have hq:=And.intro hN (And.intro hB hl);clear hq
 obtain ⟨ya,la,va,yc,lc,vc,hh⟩:=hv.has
 have R0:=Hd (RowT.new w 39 cs)
 have H1:=Hd (belowBox w (.cells cs.toArray 39))
 have HH:=Hd hh
 have HOK:=Hd hok
 have e0:=R0.out.cell HH.out.kind
 rw [hk] at e0
 have hcan:canC (m+1) v=quoI v.text:=by rw [canC];rw [if_neg (by omega)];unfold bodyT;rw [if_neg (by omega),if_neg (by omega),if_neg (by omega),if_neg (by omega),if_pos hk]
 have HR:=Hd (show strOfNums (canC (m+1) v)=quoteS v.text by rw [hcan];rfl)
 have HQ:=Hd (fun u=>quoted_r v.text u (Nat.le_trans hok.1.2.2.2.1.1 (by omega)))
 have e1:=R0.out.cell HH.out.text
 obtain ⟨t,ht⟩:∃ t,v.text=t:=⟨_,rfl⟩
 rw [ht] at HR HQ e1
 clear hh hok hN hB hv hl hk hcan ht
 go_enter Tryz.func23,Tryz.ntmps23
 go_wp2_with fail
 refine (HQ.out _).mono ?_
 rintro e w3 ⟨rfl,hb3⟩
 have H3:=Hd (belowThen H1.out hb3)
 clear hb3
 go_wp2_with fail
 go_ret
 exact ⟨by rw [HR.out];rfl,H3.out⟩
set_option maxRecDepth 100000 in
set_option maxHeartbeats 6400000 in
theorem can_5 {m:Nat} (w:World) (B N:Nat) (v:ValD) (cs:List Value) (hN:N≤4294967296) (hok:okK (m+1) v) (hB:B≤w.heap.size) (hv:ValD.At w B N v cs) (hl:(canC (m+1) v).length≤140737480000000) (hk:v.kind=5):Calls Tryz.prog 23 #[.agg cs.toArray] w (StrB (strOfNums (canC (m+1) v)) w):=by
 have hq:=And.intro hN (And.intro hB hl);clear hq
 obtain ⟨ya,la,va,yc,lc,vc,hh⟩:=hv.has
 have R0:=Hd (RowT.new w 39 cs)
 have H1:=Hd (belowBox w (.cells cs.toArray 39))
 have HH:=Hd hh
 have HOK:=Hd hok
 have e0:=R0.out.cell HH.out.kind
 rw [hk] at e0
 have hcan:canC (m+1) v=[98,34]++b64S v.bytes++[34]:=by rw [canC];rw [if_neg (by omega)];unfold bodyT;rw [if_neg (by omega),if_neg (by omega),if_neg (by omega),if_neg (by omega),if_neg (by omega),if_pos hk]
 have HR:=Hd (show strOfNums (canC (m+1) v)=⟨#[98]⟩++quoteS (strOfNums (b64S v.bytes)) by
  rw [hcan,quote_plain (by rw [nums_strOf (b64S_range _)];exact plain_b64 _),nums_strOf (b64S_range _)]
  exact strNums_app [98] (34::(b64S v.bytes++[34])))
 obtain ⟨n,hn⟩:∃ n,v.bytes.length=n:=⟨_,rfl⟩
 have hn6:n≤65536:=by rw [← hn];exact hok.1.2.2.2.1.2
 have hz:(strOfNums (b64S v.bytes)).size≤90000:=by
  rw [strOfNums_size]
  unfold b64S
  rw [b64T_len]
  omega
 have hz2:(quoteS (strOfNums (b64S v.bytes))).size≤90002:=by
  rw [quote_plain (by rw [nums_strOf (b64S_range _)];exact plain_b64 _),strOfNums_size,List.length_cons,List.length_append,nums_length]
  simp only [List.length_cons,List.length_nil]
  omega
 have HQ0:=Hd (show ∀ u,Calls Tryz.prog 22 #[.string (strOfNums (b64S v.bytes))] u (StrB (quoteS (strOfNums (b64S v.bytes))) u) from fun u=>quoted_r _ u (by omega))
 have e1:=R0.out.cell HH.out.bytes
 rw [hn] at e1
 have HT:=Hd (encode_r v.bytes n hn ya yc B _ (Nat.le_trans hB H1.out.size) hn6 (hh.atBytes.below (H1.out.mono hB)))
 obtain ⟨q,hq⟩:∃ q,quoteS (strOfNums (b64S v.bytes))=q:=⟨_,rfl⟩
 rw [hq] at HR HQ0 hz2
 obtain ⟨t,ht⟩:∃ t,strOfNums (b64S v.bytes)=t:=⟨_,rfl⟩
 rw [ht] at HT HQ0 hz
 have q1:(⟨#[98]⟩:ByteArray).size+q.size≤9223372036854775807:=by show 1+q.size≤_;omega
 clear hh hok hN hB hv hl hk hcan ht hq hz hn
 go_enter Tryz.func23,Tryz.ntmps23
 go_wp2_with fail
 refine HT.out.mono ?_
 rintro e w3 ⟨rfl,hb3⟩
 have H3:=Hd (belowThen H1.out hb3)
 clear hb3
 go_wp2_with fail
 refine (HQ0.out _).mono ?_
 rintro e w4 ⟨rfl,hb4⟩
 have H4:=Hd (belowThen H3.out hb4)
 clear hb4
 go_wp2_with fail
 go_ret
 exact ⟨by rw [HR.out];rfl,H4.out⟩
end Go.Proofs.YtniljgkkcnekgaaGreatDoor
