/- Sums of values, their results where only a part of the store may change (ResR). -/
import Derived.Test.YtmjfggadehkbjaaGreatDoorProg
import Derived.Test.YtmjfggadehkbjaaGreatDoorGA
import Derived.Test.YtmjfggadehkbjaaGreatDoorGB
import Derived.Test.YtmjfggadehkbjaaGreatDoorGC
import Derived.Test.YtmjfggadehkbjaaGreatDoorGD
import Derived.Test.YtmjfggadehkbjaaGreatDoorGF
import Derived.Test.YtmjfggadehkbjaaGreatDoorChkq
import Derived.Test.YtmjfggadehkbjaaGreatDoorXA
import Derived.Test.YtmjfggadehkbjaaGreatDoorXD
import Derived.Test.YtmjfggadehkbjaaGreatDoorXK
import Derived.Test.YtmjfggadehkbjaaGreatDoorAB
import Derived.Test.YtmjfggadehkbjaaGreatDoorAra08
import Derived.Test.YtmjfggadehkbjaaGreatDoorAD
import Derived.Test.YtmjfggadehkbjaaGreatDoorAE
import Derived.Test.YtmjfggadehkbjaaGreatDoorAF
namespace Go.Proofs.YtmjfggadehkbjaaGreatDoor
open Go.RowKit Stb
theorem res_intoB {w W W1:World} {cs ds zs xs:List Value} {B N:Nat} {r:ValD×Int} (hB:B≤w.heap.size) (hT:Tval w W cs ds zs) (hT1:Tval w W1 cs ds zs) (hsol:Solid B W.heap.size W1 (fun c=>ValD.At c c.heap.size N r.1 xs)) :
 ResR B N r w (.returned (.tuple #[.agg xs.toArray,.int .i64 r.2])) (W1.setRow (w.heap.size+1+1) xs.toArray) :=
 ⟨xs,rfl,fun _ hd=>hsol _ ((Apart.of_setRow0 xs.toArray (by omega) (by have:=hT.size;omega)).after hd (by have:=hT.size;omega)),below_setRow hT1.below (by omega) _⟩
theorem box_intoB {w W:World} {cs ds zs xs:List Value} {B N:Nat} {v:ValD} (hB:B≤w.heap.size) (hT:Tval w W cs ds zs) (hv:ValD.At w B N v xs):ResR B N (v,0) w (.returned (.tuple #[.agg xs.toArray,.int .i64 0])) (W.setRow (w.heap.size+1+1) xs.toArray):=by
 have hb:=below_setRow hT.below (g:=w.heap.size+1+1) (by omega) xs.toArray
 exact ⟨xs,rfl,fun d hd=>((hv.below (hb.mono hB)).below (hd.below (Nat.le_trans hB hb.size))).mono (Nat.le_trans (Nat.le_trans hB hb.size) hd.size),hb⟩
theorem zero_intoB {w W:World} {cs ds zs:List Value} {B N:Nat} {r:ValD×Int} {k:Int} (hT:Tval w W cs ds zs) (hr:r=(zeroD,k)):ResR B N r w (.returned (.tuple #[.agg zeroV,.int .i64 k])) (W.setRow (w.heap.size+1+1) zeroV) :=
 res_zero hr (by omega) hT.below
theorem RowsB.apart {w w':World} {B H L N:Nat} {l:List (ByteArray×ValD)} {a:Option Addr} (h:RowsB w B H N l a) (hd:Apart B L w w') (hL:L≤H) (hB:B≤w.heap.size):RowsB w' B H N l a:=by
 obtain ⟨f,hf,h3⟩:=h
 refine ⟨f,fun k hk=>?_,?_⟩
 ·obtain ⟨cs,c1,c2,c3⟩:=hf k hk
  exact ⟨cs,c1,c2,c3.below (hd.below hB)⟩
 ·rcases h3 with h3 | ⟨ad,e,h3 | ⟨b,o,rfl,h3,h4,h5⟩⟩
  ·exact .inl h3
  ·exact .inr ⟨ad,e,.inl h3⟩
  ·refine .inr ⟨_,e,.inr ⟨b,o,rfl,Nat.lt_of_lt_of_le h3 hd.size,h4,fun k hk j hj=>?_⟩⟩
   have h6:=h5 k hk j hj
   have e2:w'.heap[b]?=w.heap[b]?:=hd.block b h3 (by omega)
   rw [← h6]
   unfold World.cell?
   simp only [e2]
theorem lis_finalB {wB W2:World} {base B L N:Nat} {l:List ValD} {a:Option Addr} {c:Nat} {xs:List Value} (ho:wB.ownsRow base 30 13 (.slice a l.length c) l.length xs) (hsame:∀ q,base≤q→q<wB.heap.size→W2.heap[q]?=wB.heap[q]?) (hsz:wB.heap.size≤W2.heap.size)
 (hn:NewsV W2 B N l xs) (hw:B≤W2.heap.size) (hL:L≤base):Solid B L W2 (fun d=>ValsAt d d.heap.size N l a):=fun d hd=>by
 obtain ⟨a',c',e,h⟩:=vals_news (own_same ho (fun q h1 h2=>by rw [hd.block q (Nat.lt_of_lt_of_le h2 hsz) (.inr (Nat.le_trans hL h1))];exact hsame q h1 h2)) rfl (Nat.le_refl _) ((hn.below (hd.below hw)).mono (Nat.le_trans hw hd.size))
 cases e
 exact h
set_option maxRecDepth 100000 in
set_option maxHeartbeats 3200000 in
theorem plusb0_p (a b:ValD) (w:World) (B N:Nat) (cs ds:List Value) (hB:B≤w.heap.size) (hN:N≤4294967296) (hN2:120≤N) (ca:chkD a=0) (cb:chkD b=0) (fa:fitsV 60 a) (fb:fitsV 60 b) (hs:a.text.size+b.text.size≤N) (hl:a.list.length+b.list.length≤N) (hf:a.fields.length+b.fields.length≤N) (hv:ValD.At w B N a cs) (hu:ValD.At w B N b ds) (ha:a.kind=0) :
 Calls Tryz.prog 24 #[.agg cs.toArray,.agg ds.toArray] w (ResR B N (plusV a b) w):=by
 have hq:=And.intro (And.intro (And.intro (And.intro hB hN) hN2) (And.intro ca cb)) (And.intro (And.intro fa fb) (And.intro hs (And.intro hl hf)));clear hq
 obtain ⟨ya,la,va,yc,lc,vc,hh⟩:=hv.has
 obtain ⟨yb,lb,vb,yd,ld,vd,hg⟩:=hu.has
 have HV:=Hd hv
 have HU:=Hd hu
 have HH:=Hd hh
 have HG:=Hd hg
 have hz1:=Hd (show (Tryz.prog.info? 30).map (·.size)=some cs.length by rw [hv.len];exact sizeV)
 have hz2:=Hd (show (Tryz.prog.info? 30).map (·.size)=some ds.length by rw [hu.len];exact sizeV)
 have DA:=Hd (okC_of 48 a 0 ca)
 have DB:=Hd (okC_of 48 b 0 cb)
 have CA:=Hd ca
 have CB:=Hd cb
 have FA:=Hd fa
 have FB:=Hd fb
 have hT:=Hd (tval w cs ds [.int .i64 0,.bool false,.bool false,.string ⟨#[]⟩,.int .i64 0,.int .i64 0,.int .i64 0,.int .i64 0,.int .i64 0,.string ⟨#[]⟩,.slice none 0 0,.slice none 0 0,.slice none 0 0])
 have ek:=hT.out.one.cell hh.kind
 have fk:=hT.out.two.cell hg.kind
 rw [ha] at ek
 have HQ:=Hd (show plusV a b=(b,0) by unfold plusV;rw [if_pos ha])
 clear ha
 clear hv hu hh hg ca cb fa fb
 go_enter Tryz.func24,Tryz.ntmps24
 go_wp2_with ((with_reducible show wpList _ _ _ (⟨some 10,_,_,_,_,_⟩::_) _ _);refine wpList_load_mid rfl 30 _ rfl (w.heap.size+1) 0 rfl ds _ hT.out.two.range Tryz.underlying30 rfl hz2.out ?_)
 refine (valid_prog 60 b _ B N ds (by omega) FB.out hN (Nat.le_trans hB hT.out.below.size) (HU.out.below (hT.out.below.mono hB))).mono ?_
 rintro e wE ⟨xs,rfl,hsol,hb⟩
 obtain ⟨r,hr⟩:∃ r,r=resD b:=⟨_,rfl⟩
 rw [← hr] at hsol ⊢
 have HQ:=Hd (show plusV a b=r by rw [HQ.out,hr,resD_ok CB.out])
 have hlen:=hsol.here.len
 have AT:=Hd hsol.here
 have S1:=Hd hsol
 have hT1:=Hd (hT.out.later hb)
 clear hsol hb hr
 obtain ⟨rv,rk⟩:=r
 go_wp2_with ((with_reducible show wpList _ _ _ (⟨none,.store 30 (.tmp 4) _,_,_,_,_⟩::_) _ _);refine wpList_store_row rfl 30 _ _ rfl (w.heap.size+1+1) xs.toArray rfl rfl 30 zeroV hT1.out.res (row_size hlen) (row_zero hlen) (row_ones AT.out) ?_)
 refine bodyPost_ret (results_cell_row2 rfl _ _ (w.heap.size+1+1) 30 _ (0,0) _ rfl (hT1.out.put xs).res Tryz.underlying30 rfl (row_size hlen)) rfl ?_
 rw [HQ.out]
 exact res_intoB hB hT.out hT1.out S1.out
set_option maxRecDepth 100000 in
set_option maxHeartbeats 3200000 in
theorem plusb1_p (a b:ValD) (w:World) (B N:Nat) (cs ds:List Value) (hB:B≤w.heap.size) (hN:N≤4294967296) (hN2:120≤N) (ca:chkD a=0) (cb:chkD b=0) (fa:fitsV 60 a) (fb:fitsV 60 b) (hs:a.text.size+b.text.size≤N) (hl:a.list.length+b.list.length≤N) (hf:a.fields.length+b.fields.length≤N) (hv:ValD.At w B N a cs) (hu:ValD.At w B N b ds) (ha:a.kind≠0) (hb:b.kind=0) :
 Calls Tryz.prog 24 #[.agg cs.toArray,.agg ds.toArray] w (ResR B N (plusV a b) w):=by
 have hq:=And.intro (And.intro (And.intro (And.intro hB hN) hN2) (And.intro ca cb)) (And.intro (And.intro fa fb) (And.intro hs (And.intro hl hf)));clear hq
 obtain ⟨ya,la,va,yc,lc,vc,hh⟩:=hv.has
 obtain ⟨yb,lb,vb,yd,ld,vd,hg⟩:=hu.has
 have HV:=Hd hv
 have HU:=Hd hu
 have HH:=Hd hh
 have HG:=Hd hg
 have hz1:=Hd (show (Tryz.prog.info? 30).map (·.size)=some cs.length by rw [hv.len];exact sizeV)
 have hz2:=Hd (show (Tryz.prog.info? 30).map (·.size)=some ds.length by rw [hu.len];exact sizeV)
 have DA:=Hd (okC_of 48 a 0 ca)
 have DB:=Hd (okC_of 48 b 0 cb)
 have CA:=Hd ca
 have CB:=Hd cb
 have FA:=Hd fa
 have FB:=Hd fb
 have hT:=Hd (tval w cs ds [.int .i64 0,.bool false,.bool false,.string ⟨#[]⟩,.int .i64 0,.int .i64 0,.int .i64 0,.int .i64 0,.int .i64 0,.string ⟨#[]⟩,.slice none 0 0,.slice none 0 0,.slice none 0 0])
 have ek:=hT.out.one.cell hh.kind
 have fk:=hT.out.two.cell hg.kind
 rw [hb] at fk
 have HQ:=Hd (show plusV a b=(a,0) by unfold plusV;rw [if_neg ha,if_pos hb])
 have ka:(a.kind==0)=false:=by simpa using ha
 clear ha hb
 clear hv hu hh hg ca cb fa fb
 go_enter Tryz.func24,Tryz.ntmps24
 go_wp2_with ((with_reducible show wpList _ _ _ (⟨some 18,_,_,_,_,_⟩::_) _ _);refine wpList_load_mid rfl 30 _ rfl (w.heap.size) 0 rfl cs _ hT.out.one.range Tryz.underlying30 rfl hz1.out ?_)
 refine (valid_prog 60 a _ B N cs (by omega) FA.out hN (Nat.le_trans hB hT.out.below.size) (HV.out.below (hT.out.below.mono hB))).mono ?_
 rintro e wE ⟨xs,rfl,hsol,hb⟩
 obtain ⟨r,hr⟩:∃ r,r=resD a:=⟨_,rfl⟩
 rw [← hr] at hsol ⊢
 have HQ:=Hd (show plusV a b=r by rw [HQ.out,hr,resD_ok CA.out])
 have hlen:=hsol.here.len
 have AT:=Hd hsol.here
 have S1:=Hd hsol
 have hT1:=Hd (hT.out.later hb)
 clear hsol hb hr
 obtain ⟨rv,rk⟩:=r
 go_wp2_with ((with_reducible show wpList _ _ _ (⟨none,.store 30 (.tmp 4) _,_,_,_,_⟩::_) _ _);refine wpList_store_row rfl 30 _ _ rfl (w.heap.size+1+1) xs.toArray rfl rfl 30 zeroV hT1.out.res (row_size hlen) (row_zero hlen) (row_ones AT.out) ?_)
 refine bodyPost_ret (results_cell_row2 rfl _ _ (w.heap.size+1+1) 30 _ (0,0) _ rfl (hT1.out.put xs).res Tryz.underlying30 rfl (row_size hlen)) rfl ?_
 rw [HQ.out]
 exact res_intoB hB hT.out hT1.out S1.out
set_option maxRecDepth 100000 in
set_option maxHeartbeats 3200000 in
theorem plusb2_p (a b:ValD) (w:World) (B N:Nat) (cs ds:List Value) (hB:B≤w.heap.size) (hN:N≤4294967296) (hN2:120≤N) (ca:chkD a=0) (cb:chkD b=0) (fa:fitsV 60 a) (fb:fitsV 60 b) (hs:a.text.size+b.text.size≤N) (hl:a.list.length+b.list.length≤N) (hf:a.fields.length+b.fields.length≤N) (hv:ValD.At w B N a cs) (hu:ValD.At w B N b ds) (ha:a.kind≠0) (hb:b.kind≠0) (hne:a.kind≠b.kind) :
 Calls Tryz.prog 24 #[.agg cs.toArray,.agg ds.toArray] w (ResR B N (plusV a b) w):=by
 have hq:=And.intro (And.intro (And.intro (And.intro hB hN) hN2) (And.intro ca cb)) (And.intro (And.intro fa fb) (And.intro hs (And.intro hl hf)));clear hq
 obtain ⟨ya,la,va,yc,lc,vc,hh⟩:=hv.has
 obtain ⟨yb,lb,vb,yd,ld,vd,hg⟩:=hu.has
 have HV:=Hd hv
 have HU:=Hd hu
 have HH:=Hd hh
 have HG:=Hd hg
 have hz1:=Hd (show (Tryz.prog.info? 30).map (·.size)=some cs.length by rw [hv.len];exact sizeV)
 have hz2:=Hd (show (Tryz.prog.info? 30).map (·.size)=some ds.length by rw [hu.len];exact sizeV)
 have DA:=Hd (okC_of 48 a 0 ca)
 have DB:=Hd (okC_of 48 b 0 cb)
 have CA:=Hd ca
 have CB:=Hd cb
 have FA:=Hd fa
 have FB:=Hd fb
 have hT:=Hd (tval w cs ds [.int .i64 0,.bool false,.bool false,.string ⟨#[]⟩,.int .i64 0,.int .i64 0,.int .i64 0,.int .i64 0,.int .i64 0,.string ⟨#[]⟩,.slice none 0 0,.slice none 0 0,.slice none 0 0])
 have ek:=hT.out.one.cell hh.kind
 have fk:=hT.out.two.cell hg.kind
 have HQ:=Hd (show plusV a b=(zeroD,6) by unfold plusV;rw [if_neg ha,if_neg hb,if_pos hne])
 have ka:(a.kind==0)=false:=by simpa using ha
 have kb:(b.kind==0)=false:=by simpa using hb
 have kc:(a.kind != b.kind)=true:=by simpa using hne
 clear ha hb hne
 clear hv hu hh hg ca cb fa fb
 go_enter Tryz.func24,Tryz.ntmps24
 go_wp2_with ((with_reducible show wpList _ _ _ (⟨none,.store 30 (.tmp 4) _,_,_,_,_⟩::_) _ _);refine wpList_store_row rfl 30 _ _ rfl (w.heap.size+1+1) zeroV rfl rfl 30 zeroV hT.out.res (sizeZ) (rfl) (oneZ) ?_)
 refine bodyPost_ret (results_cell_row2 rfl _ _ (w.heap.size+1+1) 30 _ (0,0) _ rfl (hT.out.put zeroV.toList).res Tryz.underlying30 rfl sizeZ) rfl ?_
 exact zero_intoB hT.out (HQ.out)
set_option maxRecDepth 100000 in
set_option maxHeartbeats 3200000 in
theorem plusbn_p (a b:ValD) (w:World) (B N:Nat) (cs ds:List Value) (hB:B≤w.heap.size) (hN:N≤4294967296) (hN2:120≤N) (ca:chkD a=0) (cb:chkD b=0) (fa:fitsV 60 a) (fb:fitsV 60 b) (hs:a.text.size+b.text.size≤N) (hl:a.list.length+b.list.length≤N) (hf:a.fields.length+b.fields.length≤N) (hv:ValD.At w B N a cs) (hu:ValD.At w B N b ds) (ha:a.kind=2) (hb:b.kind=2) :
 Calls Tryz.prog 24 #[.agg cs.toArray,.agg ds.toArray] w (ResR B N (plusV a b) w):=by
 have hq:=And.intro (And.intro (And.intro (And.intro hB hN) hN2) (And.intro ca cb)) (And.intro (And.intro fa fb) (And.intro hs (And.intro hl hf)));clear hq
 obtain ⟨ya,la,va,yc,lc,vc,hh⟩:=hv.has
 obtain ⟨yb,lb,vb,yd,ld,vd,hg⟩:=hu.has
 have HV:=Hd hv
 have HU:=Hd hu
 have HH:=Hd hh
 have HG:=Hd hg
 have hz1:=Hd (show (Tryz.prog.info? 30).map (·.size)=some cs.length by rw [hv.len];exact sizeV)
 have hz2:=Hd (show (Tryz.prog.info? 30).map (·.size)=some ds.length by rw [hu.len];exact sizeV)
 have DA:=Hd (okC_of 48 a 0 ca)
 have DB:=Hd (okC_of 48 b 0 cb)
 have CA:=Hd ca
 have CB:=Hd cb
 have FA:=Hd fa
 have FB:=Hd fb
 have hT:=Hd (tval w cs ds [.int .i64 0,.bool false,.bool false,.string ⟨#[]⟩,.int .i64 0,.int .i64 0,.int .i64 0,.int .i64 0,.int .i64 0,.string ⟨#[]⟩,.slice none 0 0,.slice none 0 0,.slice none 0 0])
 have ek:=hT.out.one.cell hh.kind
 have fk:=hT.out.two.cell hg.kind
 have HQ:=Hd (show plusV a b=numQ (addD a.num b.num) by unfold plusV;rw [if_neg (by omega),if_neg (by omega),if_neg (by omega),if_pos ha])
 rw [ha] at ek
 rw [hb] at fk
 clear ha hb
 have eneg:=hT.out.one.cell HH.out.neg
 have fneg:=hT.out.two.cell HG.out.neg
 have edigits:=hT.out.one.cell HH.out.digits
 have fdigits:=hT.out.two.cell HG.out.digits
 have eexp:=hT.out.one.cell HH.out.exp
 have fexp:=hT.out.two.cell HG.out.exp
 clear hv hu hh hg ca cb fa fb
 go_enter Tryz.func24,Tryz.ntmps24
 go_wp2_with fail
 refine (add_p a.num b.num _ DA.out.2.1 DB.out.2.1).mono ?_
 rintro e wC ⟨rfl,hb⟩
 have hT2:=Hd (hT.out.later hb)
 clear hb hT
 have hT:=hT2
 clear hT2
 have HSM:=Hd (addD_small a.num b.num)
 obtain ⟨q,hq⟩:∃ q,q=addD a.num b.num:=⟨_,rfl⟩
 rw [← hq] at HSM HQ ⊢
 clear hq
 obtain ⟨qd,qk⟩:=q
 dsimp only
 go_wp2_with fail
 refine (numberq_p qd qk _ B N hN hN2 HSM.out (Nat.le_trans hB hT.out.below.size)).mono ?_
 rintro e wE ⟨xs,rfl,hsol,hb⟩
 obtain ⟨r,hr⟩:∃ r,r=numQ (qd,qk):=⟨_,rfl⟩
 rw [← hr] at hsol ⊢
 have HQ:=Hd (show plusV a b=r by rw [HQ.out,hr])
 have hlen:=hsol.here.len
 have AT:=Hd hsol.here
 have S1:=Hd hsol
 have hT1:=Hd (hT.out.later hb)
 clear hsol hb hr
 obtain ⟨rv,rk⟩:=r
 go_wp2_with ((with_reducible show wpList _ _ _ (⟨none,.store 30 (.tmp 4) _,_,_,_,_⟩::_) _ _);refine wpList_store_row rfl 30 _ _ rfl (w.heap.size+1+1) xs.toArray rfl rfl 30 zeroV hT1.out.res (row_size hlen) (row_zero hlen) (row_ones AT.out) ?_)
 refine bodyPost_ret (results_cell_row2 rfl _ _ (w.heap.size+1+1) 30 _ (0,0) _ rfl (hT1.out.put xs).res Tryz.underlying30 rfl (row_size hlen)) rfl ?_
 rw [HQ.out]
 exact res_intoB hB hT.out hT1.out S1.out
set_option maxRecDepth 100000 in
set_option maxHeartbeats 3200000 in
theorem plusbt_p (a b:ValD) (w:World) (B N:Nat) (cs ds:List Value) (hB:B≤w.heap.size) (hN:N≤4294967296) (hN2:120≤N) (ca:chkD a=0) (cb:chkD b=0) (fa:fitsV 60 a) (fb:fitsV 60 b) (hs:a.text.size+b.text.size≤N) (hl:a.list.length+b.list.length≤N) (hf:a.fields.length+b.fields.length≤N) (hv:ValD.At w B N a cs) (hu:ValD.At w B N b ds) (ha:a.kind=4) (hb:b.kind=4) :
 Calls Tryz.prog 24 #[.agg cs.toArray,.agg ds.toArray] w (ResR B N (plusV a b) w):=by
 have hq:=And.intro (And.intro (And.intro (And.intro hB hN) hN2) (And.intro ca cb)) (And.intro (And.intro fa fb) (And.intro hs (And.intro hl hf)));clear hq
 obtain ⟨ya,la,va,yc,lc,vc,hh⟩:=hv.has
 obtain ⟨yb,lb,vb,yd,ld,vd,hg⟩:=hu.has
 have HV:=Hd hv
 have HU:=Hd hu
 have HH:=Hd hh
 have HG:=Hd hg
 have hz1:=Hd (show (Tryz.prog.info? 30).map (·.size)=some cs.length by rw [hv.len];exact sizeV)
 have hz2:=Hd (show (Tryz.prog.info? 30).map (·.size)=some ds.length by rw [hu.len];exact sizeV)
 have DA:=Hd (okC_of 48 a 0 ca)
 have DB:=Hd (okC_of 48 b 0 cb)
 have CA:=Hd ca
 have CB:=Hd cb
 have FA:=Hd fa
 have FB:=Hd fb
 have hT:=Hd (tval w cs ds [.int .i64 0,.bool false,.bool false,.string ⟨#[]⟩,.int .i64 0,.int .i64 0,.int .i64 0,.int .i64 0,.int .i64 0,.string ⟨#[]⟩,.slice none 0 0,.slice none 0 0,.slice none 0 0])
 have ek:=hT.out.one.cell hh.kind
 have fk:=hT.out.two.cell hg.kind
 have HQ:=Hd (show plusV a b=resD (textD (a.text++b.text)) by unfold plusV;rw [if_neg (by omega),if_neg (by omega),if_neg (by omega),if_neg (by omega),if_pos ha])
 rw [ha] at ek
 rw [hb] at fk
 have hts:(a.text++b.text).size≤N:=by rw [ByteArray.size_append];exact hs
 have HTS:=Hd hts
 clear ha hb hts
 have etext:=hT.out.one.cell HH.out.text
 have ftext:=hT.out.two.cell HG.out.text
 clear hv hu hh hg ca cb fa fb
 go_enter Tryz.func24,Tryz.ntmps24
 go_wp2_with fail
 refine (text_prog (a.text++b.text) _).mono ?_
 rintro e wC ⟨rfl,hb⟩
 have hT2:=Hd (hT.out.later hb)
 clear hb hT
 have hT:=hT2
 clear hT2
 go_wp2_with fail
 refine (valid_prog 1 (textD (a.text++b.text)) _ B N (textR (a.text++b.text)) (by omega) ⟨fun x h=>(by cases h),fun f h=>(by cases h)⟩ hN (Nat.le_trans hB hT.out.below.size) (textD_at HTS.out)).mono ?_
 rintro e wE ⟨xs,rfl,hsol,hb⟩
 obtain ⟨r,hr⟩:∃ r,r=resD (textD (a.text++b.text)):=⟨_,rfl⟩
 rw [← hr] at hsol ⊢
 have HQ:=Hd (show plusV a b=r by rw [HQ.out,hr])
 have hlen:=hsol.here.len
 have AT:=Hd hsol.here
 have S1:=Hd hsol
 have hT1:=Hd (hT.out.later hb)
 clear hsol hb hr
 obtain ⟨rv,rk⟩:=r
 go_wp2_with ((with_reducible show wpList _ _ _ (⟨none,.store 30 (.tmp 4) _,_,_,_,_⟩::_) _ _);refine wpList_store_row rfl 30 _ _ rfl (w.heap.size+1+1) xs.toArray rfl rfl 30 zeroV hT1.out.res (row_size hlen) (row_zero hlen) (row_ones AT.out) ?_)
 refine bodyPost_ret (results_cell_row2 rfl _ _ (w.heap.size+1+1) 30 _ (0,0) _ rfl (hT1.out.put xs).res Tryz.underlying30 rfl (row_size hlen)) rfl ?_
 rw [HQ.out]
 exact res_intoB hB hT.out hT1.out S1.out
set_option maxRecDepth 100000 in
set_option maxHeartbeats 3200000 in
theorem plusbl_p (a b:ValD) (w:World) (B N:Nat) (cs ds:List Value) (hB:B≤w.heap.size) (hN:N≤4294967296) (hN2:120≤N) (ca:chkD a=0) (cb:chkD b=0) (fa:fitsV 60 a) (fb:fitsV 60 b) (hs:a.text.size+b.text.size≤N) (hl:a.list.length+b.list.length≤N) (hf:a.fields.length+b.fields.length≤N) (hv:ValD.At w B N a cs) (hu:ValD.At w B N b ds) (ha:a.kind=6) (hb:b.kind=6) :
 Calls Tryz.prog 24 #[.agg cs.toArray,.agg ds.toArray] w (ResR B N (plusV a b) w):=by
 have hq:=And.intro (And.intro (And.intro (And.intro hB hN) hN2) (And.intro ca cb)) (And.intro (And.intro fa fb) (And.intro hs (And.intro hl hf)));clear hq
 obtain ⟨ya,la,va,yc,lc,vc,hh⟩:=hv.has
 obtain ⟨yb,lb,vb,yd,ld,vd,hg⟩:=hu.has
 have HV:=Hd hv
 have HU:=Hd hu
 have HH:=Hd hh
 have HG:=Hd hg
 have hz1:=Hd (show (Tryz.prog.info? 30).map (·.size)=some cs.length by rw [hv.len];exact sizeV)
 have hz2:=Hd (show (Tryz.prog.info? 30).map (·.size)=some ds.length by rw [hu.len];exact sizeV)
 have DA:=Hd (okC_of 48 a 0 ca)
 have DB:=Hd (okC_of 48 b 0 cb)
 have CA:=Hd ca
 have CB:=Hd cb
 have FA:=Hd fa
 have FB:=Hd fb
 have hT:=Hd (tval w cs ds [.int .i64 0,.bool false,.bool false,.string ⟨#[]⟩,.int .i64 0,.int .i64 0,.int .i64 0,.int .i64 0,.int .i64 0,.string ⟨#[]⟩,.slice none 0 0,.slice none 0 0,.slice none 0 0])
 have ek:=hT.out.one.cell hh.kind
 have fk:=hT.out.two.cell hg.kind
 have HQ:=Hd (show plusV a b=resD (lisD (a.list++b.list)) by unfold plusV;rw [if_neg (by omega),if_neg (by omega),if_neg (by omega),if_neg (by omega),if_neg (by omega),if_pos ha])
 rw [ha] at ek
 rw [hb] at fk
 have HLF:=Hd (lis_fits (n:=59) (l:=a.list) (m:=b.list) fa.1 fb.1)
 clear ha hb
 have elist:=hT.out.one.cell HH.out.list
 have flist:=hT.out.two.cell HG.out.list
 obtain ⟨l,hle⟩:∃ l,l=a.list:=⟨_,rfl⟩
 obtain ⟨m,hme⟩:∃ m,m=b.list:=⟨_,rfl⟩
 have HLA:=Hd (show ValsAt w B N l la by rw [hle];exact HH.out.atList)
 have HMB:=Hd (show ValsAt w B N m lb by rw [hme];exact HG.out.atList)
 have HLC:=Hd (show cs[11]?=some (.slice la l.length lc) by rw [hle];exact HH.out.list)
 have HMC:=Hd (show ds[11]?=some (.slice lb m.length ld) by rw [hme];exact HG.out.list)
 rw [← hle] at elist hl HQ HLF
 rw [← hme] at flist hl HQ HLF
 clear hle hme
 clear hv hu hh hg ca cb fa fb
 go_enter Tryz.func24,Tryz.ntmps24
 go_wp2_with fail
 refine wp_region_held_drew (S:=fun u=>∃ zc,Tval w u cs ds zc) (by kernel_rfl) ⟨_,hT.out.drew⟩ (fun hHeld=>?_)
 have hT1:=Hd hT.out.drew
 clear hT ek fk elist flist
 have hT:=hT1
 clear hT1
 refine' tk 0 (.pointer (some ⟨w.heap.size,11,none⟩)) rfl rfl (.inl ⟨by rfl,fun u hu=>(by go_simp)⟩) hHeld ?_
 simp only [sq1,sq0]
 refine' tk 1 (.slice la l.length lc) rfl rfl (.inl ⟨by rfl,fun u hu=>(by obtain ⟨_,T⟩:=hu;have hc:=T.one.cell HLC.out;go_simp)⟩) hHeld ?_
 simp only [sq1,sq0]
 refine' tk 3 (.pointer (some ⟨w.heap.size+1,11,none⟩)) rfl rfl (.inl ⟨by rfl,fun u hu=>(by go_simp)⟩) hHeld ?_
 simp only [sq1,sq0]
 refine' tk 4 (.slice lb m.length ld) rfl rfl (.inl ⟨by rfl,fun u hu=>(by obtain ⟨_,T⟩:=hu;have hc:=T.two.cell HMC.out;go_simp)⟩) hHeld ?_
 simp only [sq1,sq0]
 refine rd1 2 rfl (fun K hK=>?_)
 rw [if_pos (by rfl)]
 go_simp
 refine (clonev_p l la lc B N _ (by omega) (Nat.le_trans hB hT.out.below.size) (HLA.out.below (hT.out.below.mono hB))).mono ?_
 rintro e wA ⟨vA,xsA,rfl,hownA,hnA,hbA⟩
 have hT1:=Hd (hT.out.later hbA)
 have HSZ:=Hd hT.out.size
 have HNA:=Hd ((hnA.below (hbA.mono (Nat.le_trans hB hT.out.below.size))))
 have HOA:=Hd hownA
 have HBA:=Hd hbA.size
 refine hK.out _ _ ⟨_,hT1.out⟩ (fun hHeldx=>?_)
 clear hK K hHeld hbA hT hnA hownA
 have hT:=hT1
 have hHeld:=hHeldx
 clear hT1 hHeldx
 refine rd1 5 rfl (fun K hK=>?_)
 rw [if_pos (by rfl)]
 refine wp_appVL 61 rfl _ _ rfl _ vA l.length xsA rfl HOA.out B N w m lb ld rfl HMB.out (hT.out.below.mono hB) (by omega) (by omega) HBA.out ?_
 intro vB wB ysB hownB hgrowB hnB
 simp only [sq1,sq0]
 have hbB:=Hd (show Below (w.heap.size+3) wA wB from (Below.refl _ _).grown hgrowB (by have:=HBA.out;have:=HSZ.out;omega) (fun q hq=>by have:=(HOA.out.lt q hq).1;have:=HSZ.out;omega))
 have HB2:=Hd (hT.out.below.trans (hbB.out.mono (by omega)))
 have hT1:=Hd (show Tval w wB cs ds _ from ⟨HB2.out,hT.out.one.below hbB.out (by omega),hT.out.two.below hbB.out (by omega),hT.out.res.below hbB.out (by omega)⟩)
 have HNB:=Hd ((HNA.out.below (hbB.out.mono (by omega))).cat (hnB.below (HB2.out.mono hB)))
 have HOB:=Hd hownB
 refine hK.out _ _ ⟨_,hT1.out⟩ (fun hHeldx=>?_)
 clear hK K hHeld hT hnB hownB hgrowB
 have hT:=hT1
 have hHeld:=hHeldx
 clear hT1 hHeldx
 obtain ⟨aL,cL,rfl,hL⟩:=vals_news (l:=l++m) HOB.out (by rw [List.length_append]) (Nat.le_refl _) (HNB.out.mono (Nat.le_trans hB HB2.out.size))
 have HL2:=Hd hL
 clear hL
 refine rd1 6 rfl (fun K hK=>?_)
 rw [if_pos (by rfl)]
 go_simp
 refine (list_prog_bn 59 (by omega) (l++m) (l.length+m.length) (by rw [List.length_append]) HLF.out aL cL wB wB.heap.size B N hN hl (Nat.le_refl _) (Nat.le_trans hB hT.out.below.size) HL2.out).mono ?_
 rintro e wE ⟨xs,rfl,hsol,hb⟩
 obtain ⟨r,hr⟩:∃ r,r=resD (lisD (l++m)):=⟨_,rfl⟩
 rw [← hr] at hsol ⊢
 have HQ2:=Hd (show plusV a b=r by rw [HQ.out,hr])
 have hlen:=hsol.here.len
 have AT:=Hd hsol.here
 have S1:=Hd hsol
 have hT1:=Hd (hT.out.later hb)
 refine hK.out _ _ ⟨_,hT1.out⟩ (fun hHeldx=>?_)
 clear hK K hHeld hsol hb hr
 have hHeld:=hHeldx
 clear hHeldx
 obtain ⟨rv,rk⟩:=r
 dsimp only
 refine' tk 7 (.agg xs.toArray) rfl rfl (.inl ⟨by rfl,fun u hu=>(by go_simp)⟩) hHeld ?_
 simp only [sq1,sq0]
 refine' tk 8 (.int .i64 rk) rfl rfl (.inl ⟨by rfl,fun u hu=>(by go_simp)⟩) hHeld ?_
 simp only [sq1,sq0]
 refine rd1 9 rfl (fun K hK=>?_)
 rw [if_pos (by rfl)]
 refine wp_store_atL rfl 30 _ _ rfl (w.heap.size+1+1) 0 xs rfl rfl 30 _ xs hT1.out.res (by rw [hlen];exact sizeV) (row_new hlen rfl) (by rw [hlen];exact Nat.le_refl 13) AT.out.oneCell ?_
 refine hK.out _ _ ⟨_,hT1.out.put xs⟩ (fun hHeldx=>?_)
 clear hK K hHeld
 have hHeld:=hHeldx
 clear hHeldx
 refine rd1 10 rfl (fun K hK=>?_)
 rw [if_pos (by rfl)]
 go_simp
 refine hK.out _ _ hHeld (fun hHeldx=>?_)
 clear hK K hHeldx
 refine wpAnyH_done (by kernel_rfl) ?_ _
 clear hHeld
 go_wp2_with fail
 refine bodyPost_ret (results_cell_row2 rfl _ _ (w.heap.size+1+1) 30 _ (0,0) _ rfl (hT1.out.put xs).res Tryz.underlying30 rfl (row_size hlen)) rfl ?_
 rw [HQ2.out]
 exact res_intoB hB hT.out hT1.out S1.out
set_option maxRecDepth 100000 in
set_option maxHeartbeats 3200000 in
theorem plusb0_r (a b:ValD) (w:World) (B N:Nat) (cs ds:List Value) (hB:B≤w.heap.size) (hN:N≤4294967296) (hN2:120≤N) (ca:chkD a=0) (cb:chkD b=0) (fa:fitsV 60 a) (fb:fitsV 60 b) (hs:a.text.size+b.text.size≤N) (hl:a.list.length+b.list.length≤N) (hf:a.fields.length+b.fields.length≤N) (hv:ValD.At w B N a cs) (hu:ValD.At w B N b ds) (ha:a.kind=0) :
 Calls Tryz.prog 32 #[.agg cs.toArray,.agg ds.toArray] w (ResR B N (plusV a b) w):=by
 have hq:=And.intro (And.intro (And.intro (And.intro hB hN) hN2) (And.intro ca cb)) (And.intro (And.intro fa fb) (And.intro hs (And.intro hl hf)));clear hq
 obtain ⟨ya,la,va,yc,lc,vc,hh⟩:=hv.has
 obtain ⟨yb,lb,vb,yd,ld,vd,hg⟩:=hu.has
 have HV:=Hd hv
 have HU:=Hd hu
 have HH:=Hd hh
 have HG:=Hd hg
 have hz1:=Hd (show (Tryz.prog.info? 30).map (·.size)=some cs.length by rw [hv.len];exact sizeV)
 have hz2:=Hd (show (Tryz.prog.info? 30).map (·.size)=some ds.length by rw [hu.len];exact sizeV)
 have DA:=Hd (okC_of 48 a 0 ca)
 have DB:=Hd (okC_of 48 b 0 cb)
 have CA:=Hd ca
 have CB:=Hd cb
 have FA:=Hd fa
 have FB:=Hd fb
 have hT:=Hd (tval w cs ds [.int .i64 0,.bool false,.bool false,.string ⟨#[]⟩,.int .i64 0,.int .i64 0,.int .i64 0,.int .i64 0,.int .i64 0,.string ⟨#[]⟩,.slice none 0 0,.slice none 0 0,.slice none 0 0])
 have ek:=hT.out.one.cell hh.kind
 have fk:=hT.out.two.cell hg.kind
 rw [ha] at ek
 have HQ:=Hd (show plusV a b=(b,0) by unfold plusV;rw [if_pos ha])
 clear ha
 clear hv hu hh hg ca cb fa fb
 go_enter Tryz.func32,Tryz.ntmps32
 go_wp2_with (first | ((with_reducible show wpList _ _ _ (⟨some 13,_,_,_,_,_⟩::_) _ _);refine wpList_load_mid rfl 30 _ rfl (w.heap.size+1) 0 rfl ds _ hT.out.two.range Tryz.underlying30 rfl hz2.out ?_) | ((with_reducible show wpList _ _ _ (⟨none,.store 30 (.tmp 4) _,_,_,_,_⟩::_) _ _);refine wpList_store_row rfl 30 _ _ rfl (w.heap.size+1+1) ds.toArray rfl rfl 30 zeroV hT.out.res (row_size HU.out.len) (row_zero HU.out.len) (row_ones HU.out) ?_))
 refine bodyPost_ret (results_cell_row2 rfl _ _ (w.heap.size+1+1) 30 _ (0,0) _ rfl (hT.out.put ds).res Tryz.underlying30 rfl (row_size HU.out.len)) rfl ?_
 rw [HQ.out]
 exact box_intoB hB hT.out HU.out
set_option maxRecDepth 100000 in
set_option maxHeartbeats 3200000 in
theorem plusb1_r (a b:ValD) (w:World) (B N:Nat) (cs ds:List Value) (hB:B≤w.heap.size) (hN:N≤4294967296) (hN2:120≤N) (ca:chkD a=0) (cb:chkD b=0) (fa:fitsV 60 a) (fb:fitsV 60 b) (hs:a.text.size+b.text.size≤N) (hl:a.list.length+b.list.length≤N) (hf:a.fields.length+b.fields.length≤N) (hv:ValD.At w B N a cs) (hu:ValD.At w B N b ds) (ha:a.kind≠0) (hb:b.kind=0) :
 Calls Tryz.prog 32 #[.agg cs.toArray,.agg ds.toArray] w (ResR B N (plusV a b) w):=by
 have hq:=And.intro (And.intro (And.intro (And.intro hB hN) hN2) (And.intro ca cb)) (And.intro (And.intro fa fb) (And.intro hs (And.intro hl hf)));clear hq
 obtain ⟨ya,la,va,yc,lc,vc,hh⟩:=hv.has
 obtain ⟨yb,lb,vb,yd,ld,vd,hg⟩:=hu.has
 have HV:=Hd hv
 have HU:=Hd hu
 have HH:=Hd hh
 have HG:=Hd hg
 have hz1:=Hd (show (Tryz.prog.info? 30).map (·.size)=some cs.length by rw [hv.len];exact sizeV)
 have hz2:=Hd (show (Tryz.prog.info? 30).map (·.size)=some ds.length by rw [hu.len];exact sizeV)
 have DA:=Hd (okC_of 48 a 0 ca)
 have DB:=Hd (okC_of 48 b 0 cb)
 have CA:=Hd ca
 have CB:=Hd cb
 have FA:=Hd fa
 have FB:=Hd fb
 have hT:=Hd (tval w cs ds [.int .i64 0,.bool false,.bool false,.string ⟨#[]⟩,.int .i64 0,.int .i64 0,.int .i64 0,.int .i64 0,.int .i64 0,.string ⟨#[]⟩,.slice none 0 0,.slice none 0 0,.slice none 0 0])
 have ek:=hT.out.one.cell hh.kind
 have fk:=hT.out.two.cell hg.kind
 rw [hb] at fk
 have HQ:=Hd (show plusV a b=(a,0) by unfold plusV;rw [if_neg ha,if_pos hb])
 have ka:(a.kind==0)=false:=by simpa using ha
 clear ha hb
 clear hv hu hh hg ca cb fa fb
 go_enter Tryz.func32,Tryz.ntmps32
 go_wp2_with (first | ((with_reducible show wpList _ _ _ (⟨some 18,_,_,_,_,_⟩::_) _ _);refine wpList_load_mid rfl 30 _ rfl (w.heap.size) 0 rfl cs _ hT.out.one.range Tryz.underlying30 rfl hz1.out ?_) | ((with_reducible show wpList _ _ _ (⟨none,.store 30 (.tmp 4) _,_,_,_,_⟩::_) _ _);refine wpList_store_row rfl 30 _ _ rfl (w.heap.size+1+1) cs.toArray rfl rfl 30 zeroV hT.out.res (row_size HV.out.len) (row_zero HV.out.len) (row_ones HV.out) ?_))
 refine bodyPost_ret (results_cell_row2 rfl _ _ (w.heap.size+1+1) 30 _ (0,0) _ rfl (hT.out.put cs).res Tryz.underlying30 rfl (row_size HV.out.len)) rfl ?_
 rw [HQ.out]
 exact box_intoB hB hT.out HV.out
set_option maxRecDepth 100000 in
set_option maxHeartbeats 3200000 in
theorem plusb2_r (a b:ValD) (w:World) (B N:Nat) (cs ds:List Value) (hB:B≤w.heap.size) (hN:N≤4294967296) (hN2:120≤N) (ca:chkD a=0) (cb:chkD b=0) (fa:fitsV 60 a) (fb:fitsV 60 b) (hs:a.text.size+b.text.size≤N) (hl:a.list.length+b.list.length≤N) (hf:a.fields.length+b.fields.length≤N) (hv:ValD.At w B N a cs) (hu:ValD.At w B N b ds) (ha:a.kind≠0) (hb:b.kind≠0) (hne:a.kind≠b.kind) :
 Calls Tryz.prog 32 #[.agg cs.toArray,.agg ds.toArray] w (ResR B N (plusV a b) w):=by
 have hq:=And.intro (And.intro (And.intro (And.intro hB hN) hN2) (And.intro ca cb)) (And.intro (And.intro fa fb) (And.intro hs (And.intro hl hf)));clear hq
 obtain ⟨ya,la,va,yc,lc,vc,hh⟩:=hv.has
 obtain ⟨yb,lb,vb,yd,ld,vd,hg⟩:=hu.has
 have HV:=Hd hv
 have HU:=Hd hu
 have HH:=Hd hh
 have HG:=Hd hg
 have hz1:=Hd (show (Tryz.prog.info? 30).map (·.size)=some cs.length by rw [hv.len];exact sizeV)
 have hz2:=Hd (show (Tryz.prog.info? 30).map (·.size)=some ds.length by rw [hu.len];exact sizeV)
 have DA:=Hd (okC_of 48 a 0 ca)
 have DB:=Hd (okC_of 48 b 0 cb)
 have CA:=Hd ca
 have CB:=Hd cb
 have FA:=Hd fa
 have FB:=Hd fb
 have hT:=Hd (tval w cs ds [.int .i64 0,.bool false,.bool false,.string ⟨#[]⟩,.int .i64 0,.int .i64 0,.int .i64 0,.int .i64 0,.int .i64 0,.string ⟨#[]⟩,.slice none 0 0,.slice none 0 0,.slice none 0 0])
 have ek:=hT.out.one.cell hh.kind
 have fk:=hT.out.two.cell hg.kind
 have HQ:=Hd (show plusV a b=(zeroD,6) by unfold plusV;rw [if_neg ha,if_neg hb,if_pos hne])
 have ka:(a.kind==0)=false:=by simpa using ha
 have kb:(b.kind==0)=false:=by simpa using hb
 have kc:(a.kind != b.kind)=true:=by simpa using hne
 clear ha hb hne
 clear hv hu hh hg ca cb fa fb
 go_enter Tryz.func32,Tryz.ntmps32
 go_wp2_with fail
 refine (none_6 _).mono ?_
 rintro e wC ⟨rfl,hb⟩
 have hT2:=Hd (hT.out.later hb)
 clear hb hT
 have hT:=hT2
 clear hT2
 go_wp2_with ((with_reducible show wpList _ _ _ (⟨none,.store 30 (.tmp 4) _,_,_,_,_⟩::_) _ _);refine wpList_store_row rfl 30 _ _ rfl (w.heap.size+1+1) zeroV rfl rfl 30 zeroV hT.out.res (sizeZ) (rfl) (oneZ) ?_)
 refine bodyPost_ret (results_cell_row2 rfl _ _ (w.heap.size+1+1) 30 _ (0,0) _ rfl (hT.out.put zeroV.toList).res Tryz.underlying30 rfl sizeZ) rfl ?_
 exact zero_intoB hT.out (HQ.out)
set_option maxRecDepth 100000 in
set_option maxHeartbeats 3200000 in
theorem plusbn_r (a b:ValD) (w:World) (B N:Nat) (cs ds:List Value) (hB:B≤w.heap.size) (hN:N≤4294967296) (hN2:120≤N) (ca:chkD a=0) (cb:chkD b=0) (fa:fitsV 60 a) (fb:fitsV 60 b) (hs:a.text.size+b.text.size≤N) (hl:a.list.length+b.list.length≤N) (hf:a.fields.length+b.fields.length≤N) (hv:ValD.At w B N a cs) (hu:ValD.At w B N b ds) (ha:a.kind=2) (hb:b.kind=2) :
 Calls Tryz.prog 32 #[.agg cs.toArray,.agg ds.toArray] w (ResR B N (plusV a b) w):=by
 have hq:=And.intro (And.intro (And.intro (And.intro hB hN) hN2) (And.intro ca cb)) (And.intro (And.intro fa fb) (And.intro hs (And.intro hl hf)));clear hq
 obtain ⟨ya,la,va,yc,lc,vc,hh⟩:=hv.has
 obtain ⟨yb,lb,vb,yd,ld,vd,hg⟩:=hu.has
 have HV:=Hd hv
 have HU:=Hd hu
 have HH:=Hd hh
 have HG:=Hd hg
 have hz1:=Hd (show (Tryz.prog.info? 30).map (·.size)=some cs.length by rw [hv.len];exact sizeV)
 have hz2:=Hd (show (Tryz.prog.info? 30).map (·.size)=some ds.length by rw [hu.len];exact sizeV)
 have DA:=Hd (okC_of 48 a 0 ca)
 have DB:=Hd (okC_of 48 b 0 cb)
 have CA:=Hd ca
 have CB:=Hd cb
 have FA:=Hd fa
 have FB:=Hd fb
 have hT:=Hd (tval w cs ds [.int .i64 0,.bool false,.bool false,.string ⟨#[]⟩,.int .i64 0,.int .i64 0,.int .i64 0,.int .i64 0,.int .i64 0,.string ⟨#[]⟩,.slice none 0 0,.slice none 0 0,.slice none 0 0])
 have ek:=hT.out.one.cell hh.kind
 have fk:=hT.out.two.cell hg.kind
 have HQ:=Hd (show plusV a b=numQ (addD a.num b.num) by unfold plusV;rw [if_neg (by omega),if_neg (by omega),if_neg (by omega),if_pos ha])
 rw [ha] at ek
 rw [hb] at fk
 clear ha hb
 have eneg:=hT.out.one.cell HH.out.neg
 have fneg:=hT.out.two.cell HG.out.neg
 have edigits:=hT.out.one.cell HH.out.digits
 have fdigits:=hT.out.two.cell HG.out.digits
 have eexp:=hT.out.one.cell HH.out.exp
 have fexp:=hT.out.two.cell HG.out.exp
 clear hv hu hh hg ca cb fa fb
 go_enter Tryz.func32,Tryz.ntmps32
 go_wp2_with fail
 refine (add_r a.num b.num _ DA.out.2.1 DB.out.2.1).mono ?_
 rintro e wC ⟨rfl,hb⟩
 have hT2:=Hd (hT.out.later hb)
 clear hb hT
 have hT:=hT2
 clear hT2
 have HSM:=Hd (addD_small a.num b.num)
 obtain ⟨q,hq⟩:∃ q,q=addD a.num b.num:=⟨_,rfl⟩
 rw [← hq] at HSM HQ ⊢
 clear hq
 obtain ⟨qd,qk⟩:=q
 dsimp only
 go_wp2_with fail
 refine (numberq_r qd qk _ B N hN hN2 HSM.out (Nat.le_trans hB hT.out.below.size)).mono ?_
 rintro e wE ⟨xs,rfl,hsol,hb⟩
 obtain ⟨r,hr⟩:∃ r,r=numQ (qd,qk):=⟨_,rfl⟩
 rw [← hr] at hsol ⊢
 have HQ:=Hd (show plusV a b=r by rw [HQ.out,hr])
 have hlen:=hsol.here.len
 have AT:=Hd hsol.here
 have S1:=Hd hsol
 have hT1:=Hd (hT.out.later hb)
 clear hsol hb hr
 obtain ⟨rv,rk⟩:=r
 go_wp2_with ((with_reducible show wpList _ _ _ (⟨none,.store 30 (.tmp 4) _,_,_,_,_⟩::_) _ _);refine wpList_store_row rfl 30 _ _ rfl (w.heap.size+1+1) xs.toArray rfl rfl 30 zeroV hT1.out.res (row_size hlen) (row_zero hlen) (row_ones AT.out) ?_)
 refine bodyPost_ret (results_cell_row2 rfl _ _ (w.heap.size+1+1) 30 _ (0,0) _ rfl (hT1.out.put xs).res Tryz.underlying30 rfl (row_size hlen)) rfl ?_
 rw [HQ.out]
 exact res_intoB hB hT.out hT1.out S1.out
set_option maxRecDepth 100000 in
set_option maxHeartbeats 3200000 in
theorem plusbt_r (a b:ValD) (w:World) (B N:Nat) (cs ds:List Value) (hB:B≤w.heap.size) (hN:N≤4294967296) (hN2:120≤N) (ca:chkD a=0) (cb:chkD b=0) (fa:fitsV 60 a) (fb:fitsV 60 b) (hs:a.text.size+b.text.size≤N) (hl:a.list.length+b.list.length≤N) (hf:a.fields.length+b.fields.length≤N) (hv:ValD.At w B N a cs) (hu:ValD.At w B N b ds) (ha:a.kind=4) (hb:b.kind=4) :
 Calls Tryz.prog 32 #[.agg cs.toArray,.agg ds.toArray] w (ResR B N (plusV a b) w):=by
 have hq:=And.intro (And.intro (And.intro (And.intro hB hN) hN2) (And.intro ca cb)) (And.intro (And.intro fa fb) (And.intro hs (And.intro hl hf)));clear hq
 obtain ⟨ya,la,va,yc,lc,vc,hh⟩:=hv.has
 obtain ⟨yb,lb,vb,yd,ld,vd,hg⟩:=hu.has
 have HV:=Hd hv
 have HU:=Hd hu
 have HH:=Hd hh
 have HG:=Hd hg
 have hz1:=Hd (show (Tryz.prog.info? 30).map (·.size)=some cs.length by rw [hv.len];exact sizeV)
 have hz2:=Hd (show (Tryz.prog.info? 30).map (·.size)=some ds.length by rw [hu.len];exact sizeV)
 have DA:=Hd (okC_of 48 a 0 ca)
 have DB:=Hd (okC_of 48 b 0 cb)
 have CA:=Hd ca
 have CB:=Hd cb
 have FA:=Hd fa
 have FB:=Hd fb
 have hT:=Hd (tval w cs ds [.int .i64 0,.bool false,.bool false,.string ⟨#[]⟩,.int .i64 0,.int .i64 0,.int .i64 0,.int .i64 0,.int .i64 0,.string ⟨#[]⟩,.slice none 0 0,.slice none 0 0,.slice none 0 0])
 have ek:=hT.out.one.cell hh.kind
 have fk:=hT.out.two.cell hg.kind
 have HQ:=Hd (show plusV a b=resD (textD (a.text++b.text)) by unfold plusV;rw [if_neg (by omega),if_neg (by omega),if_neg (by omega),if_neg (by omega),if_pos ha])
 rw [ha] at ek
 rw [hb] at fk
 have hts:(a.text++b.text).size≤N:=by rw [ByteArray.size_append];exact hs
 have HTS:=Hd hts
 clear ha hb hts
 have etext:=hT.out.one.cell HH.out.text
 have ftext:=hT.out.two.cell HG.out.text
 clear hv hu hh hg ca cb fa fb
 go_enter Tryz.func32,Tryz.ntmps32
 go_wp2_with fail
 refine (text_ref (a.text++b.text) _ B N hN HTS.out (Nat.le_trans hB hT.out.below.size)).mono ?_
 rintro e wE ⟨xs,rfl,hsol,hb⟩
 obtain ⟨r,hr⟩:∃ r,r=resD (textD (a.text++b.text)):=⟨_,rfl⟩
 rw [← hr] at hsol ⊢
 have HQ:=Hd (show plusV a b=r by rw [HQ.out,hr])
 have hlen:=hsol.here.len
 have AT:=Hd hsol.here
 have S1:=Hd hsol
 have hT1:=Hd (hT.out.later hb)
 clear hsol hb hr
 obtain ⟨rv,rk⟩:=r
 go_wp2_with ((with_reducible show wpList _ _ _ (⟨none,.store 30 (.tmp 4) _,_,_,_,_⟩::_) _ _);refine wpList_store_row rfl 30 _ _ rfl (w.heap.size+1+1) xs.toArray rfl rfl 30 zeroV hT1.out.res (row_size hlen) (row_zero hlen) (row_ones AT.out) ?_)
 refine bodyPost_ret (results_cell_row2 rfl _ _ (w.heap.size+1+1) 30 _ (0,0) _ rfl (hT1.out.put xs).res Tryz.underlying30 rfl (row_size hlen)) rfl ?_
 rw [HQ.out]
 exact res_intoB hB hT.out hT1.out S1.out
set_option maxRecDepth 100000 in
set_option maxHeartbeats 3200000 in
theorem plusbl_r (a b:ValD) (w:World) (B N:Nat) (cs ds:List Value) (hB:B≤w.heap.size) (hN:N≤4294967296) (hN2:120≤N) (ca:chkD a=0) (cb:chkD b=0) (fa:fitsV 60 a) (fb:fitsV 60 b) (hs:a.text.size+b.text.size≤N) (hl:a.list.length+b.list.length≤N) (hf:a.fields.length+b.fields.length≤N) (hv:ValD.At w B N a cs) (hu:ValD.At w B N b ds) (ha:a.kind=6) (hb:b.kind=6) :
 Calls Tryz.prog 32 #[.agg cs.toArray,.agg ds.toArray] w (ResR B N (plusV a b) w):=by
 have hq:=And.intro (And.intro (And.intro (And.intro hB hN) hN2) (And.intro ca cb)) (And.intro (And.intro fa fb) (And.intro hs (And.intro hl hf)));clear hq
 obtain ⟨ya,la,va,yc,lc,vc,hh⟩:=hv.has
 obtain ⟨yb,lb,vb,yd,ld,vd,hg⟩:=hu.has
 have HV:=Hd hv
 have HU:=Hd hu
 have HH:=Hd hh
 have HG:=Hd hg
 have hz1:=Hd (show (Tryz.prog.info? 30).map (·.size)=some cs.length by rw [hv.len];exact sizeV)
 have hz2:=Hd (show (Tryz.prog.info? 30).map (·.size)=some ds.length by rw [hu.len];exact sizeV)
 have DA:=Hd (okC_of 48 a 0 ca)
 have DB:=Hd (okC_of 48 b 0 cb)
 have CA:=Hd ca
 have CB:=Hd cb
 have FA:=Hd fa
 have FB:=Hd fb
 have hT:=Hd (tval w cs ds [.int .i64 0,.bool false,.bool false,.string ⟨#[]⟩,.int .i64 0,.int .i64 0,.int .i64 0,.int .i64 0,.int .i64 0,.string ⟨#[]⟩,.slice none 0 0,.slice none 0 0,.slice none 0 0])
 have ek:=hT.out.one.cell hh.kind
 have fk:=hT.out.two.cell hg.kind
 have HQ:=Hd (show plusV a b=resD (lisD (a.list++b.list)) by unfold plusV;rw [if_neg (by omega),if_neg (by omega),if_neg (by omega),if_neg (by omega),if_neg (by omega),if_pos ha])
 rw [ha] at ek
 rw [hb] at fk
 have HLF:=Hd (lis_fits (n:=59) (l:=a.list) (m:=b.list) fa.1 fb.1)
 clear ha hb
 have elist:=hT.out.one.cell HH.out.list
 have flist:=hT.out.two.cell HG.out.list
 obtain ⟨l,hle⟩:∃ l,l=a.list:=⟨_,rfl⟩
 obtain ⟨m,hme⟩:∃ m,m=b.list:=⟨_,rfl⟩
 have HLA:=Hd (show ValsAt w B N l la by rw [hle];exact HH.out.atList)
 have HMB:=Hd (show ValsAt w B N m lb by rw [hme];exact HG.out.atList)
 have HLC:=Hd (show cs[11]?=some (.slice la l.length lc) by rw [hle];exact HH.out.list)
 have HMC:=Hd (show ds[11]?=some (.slice lb m.length ld) by rw [hme];exact HG.out.list)
 rw [← hle] at elist hl HQ HLF
 rw [← hme] at flist hl HQ HLF
 clear hle hme
 have HO:=Hd (show ((((w.alloc (.cells cs.toArray 30)).alloc (.cells ds.toArray 30)).alloc (.cells [.int .i64 0,.bool false,.bool false,.string ⟨#[]⟩,.int .i64 0,.int .i64 0,.int .i64 0,.int .i64 0,.int .i64 0,.string ⟨#[]⟩,.slice none 0 0,.slice none 0 0,.slice none 0 0].toArray 30)).alloc (.cells #[] 30)).ownsRow (w.heap.size+1+1+1) 30 13 (.slice (some ⟨w.heap.size+1+1+1,0,none⟩) 0 0) 0 [] from by
  have h:=World.ownsRow_made (((w.alloc (.cells cs.toArray 30)).alloc (.cells ds.toArray 30)).alloc (.cells [.int .i64 0,.bool false,.bool false,.string ⟨#[]⟩,.int .i64 0,.int .i64 0,.int .i64 0,.int .i64 0,.int .i64 0,.string ⟨#[]⟩,.slice none 0 0,.slice none 0 0,.slice none 0 0].toArray 30)) (e:=30) (size:=13) #[] 0 (Nat.le_refl _) (Nat.zero_le _) rfl
  rw [World.size_alloc,World.size_alloc,World.size_alloc] at h
  simpa using h)
 have HB0:=Hd (show Below (w.heap.size+1+1+1) (((w.alloc (.cells cs.toArray 30)).alloc (.cells ds.toArray 30)).alloc (.cells [.int .i64 0,.bool false,.bool false,.string ⟨#[]⟩,.int .i64 0,.int .i64 0,.int .i64 0,.int .i64 0,.int .i64 0,.string ⟨#[]⟩,.slice none 0 0,.slice none 0 0,.slice none 0 0].toArray 30)) ((((w.alloc (.cells cs.toArray 30)).alloc (.cells ds.toArray 30)).alloc (.cells [.int .i64 0,.bool false,.bool false,.string ⟨#[]⟩,.int .i64 0,.int .i64 0,.int .i64 0,.int .i64 0,.int .i64 0,.string ⟨#[]⟩,.slice none 0 0,.slice none 0 0,.slice none 0 0].toArray 30)).alloc (.cells #[] 30)) from (belowBox _ _).mono (by rw [World.size_alloc,World.size_alloc,World.size_alloc];omega))
 have HS0:=Hd (show w.heap.size+1+1+1≤((((w.alloc (.cells cs.toArray 30)).alloc (.cells ds.toArray 30)).alloc (.cells [.int .i64 0,.bool false,.bool false,.string ⟨#[]⟩,.int .i64 0,.int .i64 0,.int .i64 0,.int .i64 0,.int .i64 0,.string ⟨#[]⟩,.slice none 0 0,.slice none 0 0,.slice none 0 0].toArray 30)).alloc (.cells #[] 30)).heap.size by rw [World.size_alloc,World.size_alloc,World.size_alloc,World.size_alloc];omega)
 clear hv hu hh hg ca cb fa fb
 go_enter Tryz.func32,Tryz.ntmps32
 go_wp2_with ((with_reducible show wpList _ _ _ (⟨some 57,_,_,_,_,_⟩::_) _ _);refine wpList_appV rfl _ _ rfl (w.heap.size+1+1+1) _ 0 [] rfl HO.out B N w l la lc rfl HLA.out ((hT.out.below.trans (HB0.out.mono (by omega))).mono hB) (by omega) (by omega) HS0.out ?_)
 intro vA wA xsA hownA hgrowA hnA
 have hbA:=Hd (show Below (w.heap.size+1+1+1) (((w.alloc (.cells cs.toArray 30)).alloc (.cells ds.toArray 30)).alloc (.cells [.int .i64 0,.bool false,.bool false,.string ⟨#[]⟩,.int .i64 0,.int .i64 0,.int .i64 0,.int .i64 0,.int .i64 0,.string ⟨#[]⟩,.slice none 0 0,.slice none 0 0,.slice none 0 0].toArray 30)) wA from HB0.out.trans ((Below.refl _ _).grown hgrowA HS0.out (by intro k hk;simp [Value.ownBlock] at hk;omega)))
 have HA2:=Hd (hT.out.below.trans (hbA.out.mono (by omega)))
 have hT1:=Hd (show Tval w wA cs ds _ from ⟨HA2.out,hT.out.one.below hbA.out (by omega),hT.out.two.below hbA.out (by omega),hT.out.res.below hbA.out (by omega)⟩)
 have HOA:=Hd (show wA.ownsRow (w.heap.size+1+1+1) 30 13 vA l.length xsA by simpa using hownA)
 have HNA:=Hd (hnA.below (HA2.out.mono hB))
 skip
 have HSA:=Hd (show w.heap.size+1+1+1≤wA.heap.size by have:=hT1.out.size;omega)
 clear hownA hgrowA hnA ek fk elist flist HO HB0 HS0 hT
 have hT:=hT1
 clear hT1
 have flist:=hT.out.two.cell HMC.out
 go_wp2_with ((with_reducible show wpList _ _ _ (⟨some 61,_,_,_,_,_⟩::_) _ _);refine wpList_appV rfl _ _ rfl (w.heap.size+1+1+1) vA l.length xsA rfl HOA.out B N w m lb ld rfl HMB.out (hT.out.below.mono hB) (by omega) (by omega) HSA.out ?_)
 intro vB wB ysB hownB hgrowB hnB
 have hbB:=Hd (show Below (w.heap.size+1+1+1) wA wB from (Below.refl _ _).grown hgrowB HSA.out (fun q hq=>(HOA.out.lt q hq).1))
 have HB2:=Hd (hT.out.below.trans (hbB.out.mono (by omega)))
 have hT1:=Hd (show Tval w wB cs ds _ from ⟨HB2.out,hT.out.one.below hbB.out (by omega),hT.out.two.below hbB.out (by omega),hT.out.res.below hbB.out (by omega)⟩)
 have HNB:=Hd ((HNA.out.below (hbB.out.mono (by omega))).cat (hnB.below (HB2.out.mono hB)))
 have HOB:=Hd hownB
 clear hT hnB hownB hgrowB flist
 have hT:=hT1
 clear hT1
 obtain ⟨aL,cL,rfl,hL⟩:=vals_news (l:=l++m) HOB.out (by rw [List.length_append]) (Nat.le_refl _) (HNB.out.mono (Nat.le_trans hB HB2.out.size))
 have HL2:=Hd hL
 clear hL
 go_wp2_with fail
 refine (list_rex (l++m) (l.length+m.length) (by rw [List.length_append]) aL cL wB wB.heap.size N hN hl (Nat.le_refl _) HL2.out).mono ?_
 rintro e wE ⟨hor,hb⟩
 have hT1:=Hd (hT.out.later hb)
 have HB3:=Hd hb
 clear hb
 rcases hor with ⟨hk,rfl⟩ | ⟨hk,rfl⟩
 ·have HQ2:=Hd (show plusV a b=(lisD (l++m),0) by rw [HQ.out];exact resD_ok hk)
  have hlen:(lisR (l++m) aL cL).length=13:=rfl
  have ONE:=Hd (show ∀ v∈lisR (l++m) aL cL,v.oneCell'=true from (lisD_at (B:=wB.heap.size) cL (by rw [List.length_append];exact hl) HL2.out).oneCell)
  clear hk
  go_wp2_with ((with_reducible show wpList _ _ _ (⟨none,.store 30 (.tmp 4) _,_,_,_,_⟩::_) _ _);refine wpList_store_row rfl 30 _ _ rfl (w.heap.size+1+1) (lisR (l++m) aL cL).toArray rfl rfl 30 zeroV hT1.out.res (row_size hlen) (row_zero hlen) (Go.all_oneCell_toArray ONE.out) ?_)
  refine bodyPost_ret (results_cell_row2 rfl _ _ (w.heap.size+1+1) 30 _ (0,0) _ rfl (hT1.out.put (lisR (l++m) aL cL)).res Tryz.underlying30 rfl (row_size hlen)) rfl ?_
  rw [HQ2.out]
  have HF:=Hd (hT1.out.put (lisR (l++m) aL cL)).below
  refine ⟨lisR (l++m) aL cL,rfl,fun d hd=>lisD_at cL (by rw [List.length_append];exact hl) (lis_finalB (L:=w.heap.size) (l:=l++m) (by have h:=HOB.out;rw [← List.length_append] at h;exact h) (fun q h1 h2=>?_) (by rw [setRow_size];exact HB3.out.size) (HNB.out.below ?_) (Nat.le_trans hB HF.out.size) (by omega) d hd),HF.out⟩
  ·rw [setRow_other _ _ _ _ (by omega)]
   exact HB3.out.block q h2
  ·exact ((HB3.out.mono HB2.out.size).trans (below_setRow (Below.refl _ _) (by omega) _)).mono hB
 ·have HQ2:=Hd (show plusV a b=(zeroD,chkD (lisD (l++m))) by rw [HQ.out];unfold resD;rw [if_neg hk])
  obtain ⟨k,hk2⟩:∃ k,k=chkD (lisD (l++m)):=⟨_,rfl⟩
  rw [← hk2] at HQ2 ⊢
  clear hk hk2
  have hT:=hT1
  go_wp2_with ((with_reducible show wpList _ _ _ (⟨none,.store 30 (.tmp 4) _,_,_,_,_⟩::_) _ _);refine wpList_store_row rfl 30 _ _ rfl (w.heap.size+1+1) zeroV rfl rfl 30 zeroV hT.out.res (sizeZ) (rfl) (oneZ) ?_)
  refine bodyPost_ret (results_cell_row2 rfl _ _ (w.heap.size+1+1) 30 _ (0,0) _ rfl (hT.out.put zeroV.toList).res Tryz.underlying30 rfl sizeZ) rfl ?_
  exact zero_intoB hT.out (HQ2.out)
end Go.Proofs.YtmjfggadehkbjaaGreatDoor

/- Sums of two values, on both sides. -/
namespace Go.Proofs.YtmjfggadehkbjaaGreatDoor
open Go.RowKit Stb
set_option maxRecDepth 100000 in
set_option maxHeartbeats 3200000 in
theorem plusbz1_p (a b:ValD) (w:World) (B N:Nat) (cs ds:List Value) (hB:B≤w.heap.size) (hN:N≤4294967296) (hN2:120≤N) (ca:chkD a=0) (cb:chkD b=0) (fa:fitsV 60 a) (fb:fitsV 60 b) (hs:a.text.size+b.text.size≤N) (hl:a.list.length+b.list.length≤N) (hf:a.fields.length+b.fields.length≤N) (hv:ValD.At w B N a cs) (hu:ValD.At w B N b ds) (ha:a.kind=1) (hb:b.kind=1) :
 Calls Tryz.prog 24 #[.agg cs.toArray,.agg ds.toArray] w (ResR B N (plusV a b) w):=by
 have hq:=And.intro (And.intro (And.intro (And.intro hB hN) hN2) (And.intro ca cb)) (And.intro (And.intro fa fb) (And.intro hs (And.intro hl hf)));clear hq
 obtain ⟨ya,la,va,yc,lc,vc,hh⟩:=hv.has
 obtain ⟨yb,lb,vb,yd,ld,vd,hg⟩:=hu.has
 have HV:=Hd hv
 have HU:=Hd hu
 have HH:=Hd hh
 have HG:=Hd hg
 have hz1:=Hd (show (Tryz.prog.info? 30).map (·.size)=some cs.length by rw [hv.len];exact sizeV)
 have hz2:=Hd (show (Tryz.prog.info? 30).map (·.size)=some ds.length by rw [hu.len];exact sizeV)
 have DA:=Hd (okC_of 48 a 0 ca)
 have DB:=Hd (okC_of 48 b 0 cb)
 have CA:=Hd ca
 have CB:=Hd cb
 have FA:=Hd fa
 have FB:=Hd fb
 have hT:=Hd (tval w cs ds [.int .i64 0,.bool false,.bool false,.string ⟨#[]⟩,.int .i64 0,.int .i64 0,.int .i64 0,.int .i64 0,.int .i64 0,.string ⟨#[]⟩,.slice none 0 0,.slice none 0 0,.slice none 0 0])
 have ek:=hT.out.one.cell hh.kind
 have fk:=hT.out.two.cell hg.kind
 have HQ:=Hd (show plusV a b=(zeroD,6) by unfold plusV;rw [if_neg (by omega),if_neg (by omega),if_neg (by omega),if_neg (by omega),if_neg (by omega),if_neg (by omega),if_neg (by omega)])
 rw [ha] at ek
 rw [hb] at fk
 clear ha hb
 clear hv hu hh hg ca cb fa fb
 go_enter Tryz.func24,Tryz.ntmps24
 go_wp2_with ((with_reducible show wpList _ _ _ (⟨none,.store 30 (.tmp 4) _,_,_,_,_⟩::_) _ _);refine wpList_store_row rfl 30 _ _ rfl (w.heap.size+1+1) zeroV rfl rfl 30 zeroV hT.out.res (sizeZ) (rfl) (oneZ) ?_)
 refine bodyPost_ret (results_cell_row2 rfl _ _ (w.heap.size+1+1) 30 _ (0,0) _ rfl (hT.out.put zeroV.toList).res Tryz.underlying30 rfl sizeZ) rfl ?_
 exact zero_intoB hT.out (HQ.out)
set_option maxRecDepth 100000 in
set_option maxHeartbeats 3200000 in
theorem plusbz3_p (a b:ValD) (w:World) (B N:Nat) (cs ds:List Value) (hB:B≤w.heap.size) (hN:N≤4294967296) (hN2:120≤N) (ca:chkD a=0) (cb:chkD b=0) (fa:fitsV 60 a) (fb:fitsV 60 b) (hs:a.text.size+b.text.size≤N) (hl:a.list.length+b.list.length≤N) (hf:a.fields.length+b.fields.length≤N) (hv:ValD.At w B N a cs) (hu:ValD.At w B N b ds) (ha:a.kind=3) (hb:b.kind=3) :
 Calls Tryz.prog 24 #[.agg cs.toArray,.agg ds.toArray] w (ResR B N (plusV a b) w):=by
 have hq:=And.intro (And.intro (And.intro (And.intro hB hN) hN2) (And.intro ca cb)) (And.intro (And.intro fa fb) (And.intro hs (And.intro hl hf)));clear hq
 obtain ⟨ya,la,va,yc,lc,vc,hh⟩:=hv.has
 obtain ⟨yb,lb,vb,yd,ld,vd,hg⟩:=hu.has
 have HV:=Hd hv
 have HU:=Hd hu
 have HH:=Hd hh
 have HG:=Hd hg
 have hz1:=Hd (show (Tryz.prog.info? 30).map (·.size)=some cs.length by rw [hv.len];exact sizeV)
 have hz2:=Hd (show (Tryz.prog.info? 30).map (·.size)=some ds.length by rw [hu.len];exact sizeV)
 have DA:=Hd (okC_of 48 a 0 ca)
 have DB:=Hd (okC_of 48 b 0 cb)
 have CA:=Hd ca
 have CB:=Hd cb
 have FA:=Hd fa
 have FB:=Hd fb
 have hT:=Hd (tval w cs ds [.int .i64 0,.bool false,.bool false,.string ⟨#[]⟩,.int .i64 0,.int .i64 0,.int .i64 0,.int .i64 0,.int .i64 0,.string ⟨#[]⟩,.slice none 0 0,.slice none 0 0,.slice none 0 0])
 have ek:=hT.out.one.cell hh.kind
 have fk:=hT.out.two.cell hg.kind
 have HQ:=Hd (show plusV a b=(zeroD,6) by unfold plusV;rw [if_neg (by omega),if_neg (by omega),if_neg (by omega),if_neg (by omega),if_neg (by omega),if_neg (by omega),if_neg (by omega)])
 rw [ha] at ek
 rw [hb] at fk
 clear ha hb
 clear hv hu hh hg ca cb fa fb
 go_enter Tryz.func24,Tryz.ntmps24
 go_wp2_with ((with_reducible show wpList _ _ _ (⟨none,.store 30 (.tmp 4) _,_,_,_,_⟩::_) _ _);refine wpList_store_row rfl 30 _ _ rfl (w.heap.size+1+1) zeroV rfl rfl 30 zeroV hT.out.res (sizeZ) (rfl) (oneZ) ?_)
 refine bodyPost_ret (results_cell_row2 rfl _ _ (w.heap.size+1+1) 30 _ (0,0) _ rfl (hT.out.put zeroV.toList).res Tryz.underlying30 rfl sizeZ) rfl ?_
 exact zero_intoB hT.out (HQ.out)
set_option maxRecDepth 100000 in
set_option maxHeartbeats 3200000 in
theorem plusbz5_p (a b:ValD) (w:World) (B N:Nat) (cs ds:List Value) (hB:B≤w.heap.size) (hN:N≤4294967296) (hN2:120≤N) (ca:chkD a=0) (cb:chkD b=0) (fa:fitsV 60 a) (fb:fitsV 60 b) (hs:a.text.size+b.text.size≤N) (hl:a.list.length+b.list.length≤N) (hf:a.fields.length+b.fields.length≤N) (hv:ValD.At w B N a cs) (hu:ValD.At w B N b ds) (ha:a.kind=5) (hb:b.kind=5) :
 Calls Tryz.prog 24 #[.agg cs.toArray,.agg ds.toArray] w (ResR B N (plusV a b) w):=by
 have hq:=And.intro (And.intro (And.intro (And.intro hB hN) hN2) (And.intro ca cb)) (And.intro (And.intro fa fb) (And.intro hs (And.intro hl hf)));clear hq
 obtain ⟨ya,la,va,yc,lc,vc,hh⟩:=hv.has
 obtain ⟨yb,lb,vb,yd,ld,vd,hg⟩:=hu.has
 have HV:=Hd hv
 have HU:=Hd hu
 have HH:=Hd hh
 have HG:=Hd hg
 have hz1:=Hd (show (Tryz.prog.info? 30).map (·.size)=some cs.length by rw [hv.len];exact sizeV)
 have hz2:=Hd (show (Tryz.prog.info? 30).map (·.size)=some ds.length by rw [hu.len];exact sizeV)
 have DA:=Hd (okC_of 48 a 0 ca)
 have DB:=Hd (okC_of 48 b 0 cb)
 have CA:=Hd ca
 have CB:=Hd cb
 have FA:=Hd fa
 have FB:=Hd fb
 have hT:=Hd (tval w cs ds [.int .i64 0,.bool false,.bool false,.string ⟨#[]⟩,.int .i64 0,.int .i64 0,.int .i64 0,.int .i64 0,.int .i64 0,.string ⟨#[]⟩,.slice none 0 0,.slice none 0 0,.slice none 0 0])
 have ek:=hT.out.one.cell hh.kind
 have fk:=hT.out.two.cell hg.kind
 have HQ:=Hd (show plusV a b=(zeroD,6) by unfold plusV;rw [if_neg (by omega),if_neg (by omega),if_neg (by omega),if_neg (by omega),if_neg (by omega),if_neg (by omega),if_neg (by omega)])
 rw [ha] at ek
 rw [hb] at fk
 clear ha hb
 clear hv hu hh hg ca cb fa fb
 go_enter Tryz.func24,Tryz.ntmps24
 go_wp2_with ((with_reducible show wpList _ _ _ (⟨none,.store 30 (.tmp 4) _,_,_,_,_⟩::_) _ _);refine wpList_store_row rfl 30 _ _ rfl (w.heap.size+1+1) zeroV rfl rfl 30 zeroV hT.out.res (sizeZ) (rfl) (oneZ) ?_)
 refine bodyPost_ret (results_cell_row2 rfl _ _ (w.heap.size+1+1) 30 _ (0,0) _ rfl (hT.out.put zeroV.toList).res Tryz.underlying30 rfl sizeZ) rfl ?_
 exact zero_intoB hT.out (HQ.out)
set_option maxRecDepth 100000 in
set_option maxHeartbeats 3200000 in
theorem plusbz1_r (a b:ValD) (w:World) (B N:Nat) (cs ds:List Value) (hB:B≤w.heap.size) (hN:N≤4294967296) (hN2:120≤N) (ca:chkD a=0) (cb:chkD b=0) (fa:fitsV 60 a) (fb:fitsV 60 b) (hs:a.text.size+b.text.size≤N) (hl:a.list.length+b.list.length≤N) (hf:a.fields.length+b.fields.length≤N) (hv:ValD.At w B N a cs) (hu:ValD.At w B N b ds) (ha:a.kind=1) (hb:b.kind=1) :
 Calls Tryz.prog 32 #[.agg cs.toArray,.agg ds.toArray] w (ResR B N (plusV a b) w):=by
 have hq:=And.intro (And.intro (And.intro (And.intro hB hN) hN2) (And.intro ca cb)) (And.intro (And.intro fa fb) (And.intro hs (And.intro hl hf)));clear hq
 obtain ⟨ya,la,va,yc,lc,vc,hh⟩:=hv.has
 obtain ⟨yb,lb,vb,yd,ld,vd,hg⟩:=hu.has
 have HV:=Hd hv
 have HU:=Hd hu
 have HH:=Hd hh
 have HG:=Hd hg
 have hz1:=Hd (show (Tryz.prog.info? 30).map (·.size)=some cs.length by rw [hv.len];exact sizeV)
 have hz2:=Hd (show (Tryz.prog.info? 30).map (·.size)=some ds.length by rw [hu.len];exact sizeV)
 have DA:=Hd (okC_of 48 a 0 ca)
 have DB:=Hd (okC_of 48 b 0 cb)
 have CA:=Hd ca
 have CB:=Hd cb
 have FA:=Hd fa
 have FB:=Hd fb
 have hT:=Hd (tval w cs ds [.int .i64 0,.bool false,.bool false,.string ⟨#[]⟩,.int .i64 0,.int .i64 0,.int .i64 0,.int .i64 0,.int .i64 0,.string ⟨#[]⟩,.slice none 0 0,.slice none 0 0,.slice none 0 0])
 have ek:=hT.out.one.cell hh.kind
 have fk:=hT.out.two.cell hg.kind
 have HQ:=Hd (show plusV a b=(zeroD,6) by unfold plusV;rw [if_neg (by omega),if_neg (by omega),if_neg (by omega),if_neg (by omega),if_neg (by omega),if_neg (by omega),if_neg (by omega)])
 rw [ha] at ek
 rw [hb] at fk
 clear ha hb
 clear hv hu hh hg ca cb fa fb
 go_enter Tryz.func32,Tryz.ntmps32
 go_wp2_with fail
 refine (none_6 _).mono ?_
 rintro e wC ⟨rfl,hb⟩
 have hT2:=Hd (hT.out.later hb)
 clear hb hT
 have hT:=hT2
 clear hT2
 go_wp2_with ((with_reducible show wpList _ _ _ (⟨none,.store 30 (.tmp 4) _,_,_,_,_⟩::_) _ _);refine wpList_store_row rfl 30 _ _ rfl (w.heap.size+1+1) zeroV rfl rfl 30 zeroV hT.out.res (sizeZ) (rfl) (oneZ) ?_)
 refine bodyPost_ret (results_cell_row2 rfl _ _ (w.heap.size+1+1) 30 _ (0,0) _ rfl (hT.out.put zeroV.toList).res Tryz.underlying30 rfl sizeZ) rfl ?_
 exact zero_intoB hT.out (HQ.out)
set_option maxRecDepth 100000 in
set_option maxHeartbeats 3200000 in
theorem plusbz3_r (a b:ValD) (w:World) (B N:Nat) (cs ds:List Value) (hB:B≤w.heap.size) (hN:N≤4294967296) (hN2:120≤N) (ca:chkD a=0) (cb:chkD b=0) (fa:fitsV 60 a) (fb:fitsV 60 b) (hs:a.text.size+b.text.size≤N) (hl:a.list.length+b.list.length≤N) (hf:a.fields.length+b.fields.length≤N) (hv:ValD.At w B N a cs) (hu:ValD.At w B N b ds) (ha:a.kind=3) (hb:b.kind=3) :
 Calls Tryz.prog 32 #[.agg cs.toArray,.agg ds.toArray] w (ResR B N (plusV a b) w):=by
 have hq:=And.intro (And.intro (And.intro (And.intro hB hN) hN2) (And.intro ca cb)) (And.intro (And.intro fa fb) (And.intro hs (And.intro hl hf)));clear hq
 obtain ⟨ya,la,va,yc,lc,vc,hh⟩:=hv.has
 obtain ⟨yb,lb,vb,yd,ld,vd,hg⟩:=hu.has
 have HV:=Hd hv
 have HU:=Hd hu
 have HH:=Hd hh
 have HG:=Hd hg
 have hz1:=Hd (show (Tryz.prog.info? 30).map (·.size)=some cs.length by rw [hv.len];exact sizeV)
 have hz2:=Hd (show (Tryz.prog.info? 30).map (·.size)=some ds.length by rw [hu.len];exact sizeV)
 have DA:=Hd (okC_of 48 a 0 ca)
 have DB:=Hd (okC_of 48 b 0 cb)
 have CA:=Hd ca
 have CB:=Hd cb
 have FA:=Hd fa
 have FB:=Hd fb
 have hT:=Hd (tval w cs ds [.int .i64 0,.bool false,.bool false,.string ⟨#[]⟩,.int .i64 0,.int .i64 0,.int .i64 0,.int .i64 0,.int .i64 0,.string ⟨#[]⟩,.slice none 0 0,.slice none 0 0,.slice none 0 0])
 have ek:=hT.out.one.cell hh.kind
 have fk:=hT.out.two.cell hg.kind
 have HQ:=Hd (show plusV a b=(zeroD,6) by unfold plusV;rw [if_neg (by omega),if_neg (by omega),if_neg (by omega),if_neg (by omega),if_neg (by omega),if_neg (by omega),if_neg (by omega)])
 rw [ha] at ek
 rw [hb] at fk
 clear ha hb
 clear hv hu hh hg ca cb fa fb
 go_enter Tryz.func32,Tryz.ntmps32
 go_wp2_with fail
 refine (none_6 _).mono ?_
 rintro e wC ⟨rfl,hb⟩
 have hT2:=Hd (hT.out.later hb)
 clear hb hT
 have hT:=hT2
 clear hT2
 go_wp2_with ((with_reducible show wpList _ _ _ (⟨none,.store 30 (.tmp 4) _,_,_,_,_⟩::_) _ _);refine wpList_store_row rfl 30 _ _ rfl (w.heap.size+1+1) zeroV rfl rfl 30 zeroV hT.out.res (sizeZ) (rfl) (oneZ) ?_)
 refine bodyPost_ret (results_cell_row2 rfl _ _ (w.heap.size+1+1) 30 _ (0,0) _ rfl (hT.out.put zeroV.toList).res Tryz.underlying30 rfl sizeZ) rfl ?_
 exact zero_intoB hT.out (HQ.out)
set_option maxRecDepth 100000 in
set_option maxHeartbeats 3200000 in
theorem plusbz5_r (a b:ValD) (w:World) (B N:Nat) (cs ds:List Value) (hB:B≤w.heap.size) (hN:N≤4294967296) (hN2:120≤N) (ca:chkD a=0) (cb:chkD b=0) (fa:fitsV 60 a) (fb:fitsV 60 b) (hs:a.text.size+b.text.size≤N) (hl:a.list.length+b.list.length≤N) (hf:a.fields.length+b.fields.length≤N) (hv:ValD.At w B N a cs) (hu:ValD.At w B N b ds) (ha:a.kind=5) (hb:b.kind=5) :
 Calls Tryz.prog 32 #[.agg cs.toArray,.agg ds.toArray] w (ResR B N (plusV a b) w):=by
 have hq:=And.intro (And.intro (And.intro (And.intro hB hN) hN2) (And.intro ca cb)) (And.intro (And.intro fa fb) (And.intro hs (And.intro hl hf)));clear hq
 obtain ⟨ya,la,va,yc,lc,vc,hh⟩:=hv.has
 obtain ⟨yb,lb,vb,yd,ld,vd,hg⟩:=hu.has
 have HV:=Hd hv
 have HU:=Hd hu
 have HH:=Hd hh
 have HG:=Hd hg
 have hz1:=Hd (show (Tryz.prog.info? 30).map (·.size)=some cs.length by rw [hv.len];exact sizeV)
 have hz2:=Hd (show (Tryz.prog.info? 30).map (·.size)=some ds.length by rw [hu.len];exact sizeV)
 have DA:=Hd (okC_of 48 a 0 ca)
 have DB:=Hd (okC_of 48 b 0 cb)
 have CA:=Hd ca
 have CB:=Hd cb
 have FA:=Hd fa
 have FB:=Hd fb
 have hT:=Hd (tval w cs ds [.int .i64 0,.bool false,.bool false,.string ⟨#[]⟩,.int .i64 0,.int .i64 0,.int .i64 0,.int .i64 0,.int .i64 0,.string ⟨#[]⟩,.slice none 0 0,.slice none 0 0,.slice none 0 0])
 have ek:=hT.out.one.cell hh.kind
 have fk:=hT.out.two.cell hg.kind
 have HQ:=Hd (show plusV a b=(zeroD,6) by unfold plusV;rw [if_neg (by omega),if_neg (by omega),if_neg (by omega),if_neg (by omega),if_neg (by omega),if_neg (by omega),if_neg (by omega)])
 rw [ha] at ek
 rw [hb] at fk
 clear ha hb
 clear hv hu hh hg ca cb fa fb
 go_enter Tryz.func32,Tryz.ntmps32
 go_wp2_with fail
 refine (none_6 _).mono ?_
 rintro e wC ⟨rfl,hb⟩
 have hT2:=Hd (hT.out.later hb)
 clear hb hT
 have hT:=hT2
 clear hT2
 go_wp2_with ((with_reducible show wpList _ _ _ (⟨none,.store 30 (.tmp 4) _,_,_,_,_⟩::_) _ _);refine wpList_store_row rfl 30 _ _ rfl (w.heap.size+1+1) zeroV rfl rfl 30 zeroV hT.out.res (sizeZ) (rfl) (oneZ) ?_)
 refine bodyPost_ret (results_cell_row2 rfl _ _ (w.heap.size+1+1) 30 _ (0,0) _ rfl (hT.out.put zeroV.toList).res Tryz.underlying30 rfl sizeZ) rfl ?_
 exact zero_intoB hT.out (HQ.out)
set_option maxRecDepth 100000 in
set_option maxHeartbeats 3200000 in
theorem plusbm_r (a b:ValD) (w:World) (B N:Nat) (cs ds:List Value) (hB:B≤w.heap.size) (hN:N≤4294967296) (hN2:120≤N) (ca:chkD a=0) (cb:chkD b=0) (fa:fitsV 60 a) (fb:fitsV 60 b) (hs:a.text.size+b.text.size≤N) (hl:a.list.length+b.list.length≤N) (hf:a.fields.length+b.fields.length≤N) (hv:ValD.At w B N a cs) (hu:ValD.At w B N b ds) (ha:a.kind=7) (hb:b.kind=7) :
 Calls Tryz.prog 32 #[.agg cs.toArray,.agg ds.toArray] w (ResR B N (plusV a b) w):=by
 have hq:=And.intro (And.intro (And.intro (And.intro hB hN) hN2) (And.intro ca cb)) (And.intro (And.intro fa fb) (And.intro hs (And.intro hl hf)));clear hq
 obtain ⟨ya,la,va,yc,lc,vc,hh⟩:=hv.has
 obtain ⟨yb,lb,vb,yd,ld,vd,hg⟩:=hu.has
 have HV:=Hd hv
 have HU:=Hd hu
 have HH:=Hd hh
 have HG:=Hd hg
 have hz1:=Hd (show (Tryz.prog.info? 30).map (·.size)=some cs.length by rw [hv.len];exact sizeV)
 have hz2:=Hd (show (Tryz.prog.info? 30).map (·.size)=some ds.length by rw [hu.len];exact sizeV)
 have DA:=Hd (okC_of 48 a 0 ca)
 have DB:=Hd (okC_of 48 b 0 cb)
 have CA:=Hd ca
 have CB:=Hd cb
 have FA:=Hd fa
 have FB:=Hd fb
 have hT:=Hd (tval w cs ds [.int .i64 0,.bool false,.bool false,.string ⟨#[]⟩,.int .i64 0,.int .i64 0,.int .i64 0,.int .i64 0,.int .i64 0,.string ⟨#[]⟩,.slice none 0 0,.slice none 0 0,.slice none 0 0])
 have ek:=hT.out.one.cell hh.kind
 have fk:=hT.out.two.cell hg.kind
 have HQ:=Hd (show plusV a b=resD (mapD (mergeF a.fields b.fields)) by unfold plusV;rw [if_neg (by omega),if_neg (by omega),if_neg (by omega),if_neg (by omega),if_neg (by omega),if_neg (by omega),if_pos ha])
 rw [ha] at ek
 rw [hb] at fk
 clear ha hb
 have efields:=hT.out.one.cell HH.out.fields
 have ffields:=hT.out.two.cell HG.out.fields
 obtain ⟨l,hle⟩:∃ l,l=a.fields:=⟨_,rfl⟩
 obtain ⟨m,hme⟩:∃ m,m=b.fields:=⟨_,rfl⟩
 have HFA:=Hd (show FieldsAt w B N l va by rw [hle];exact HH.out.atFields)
 have HFB:=Hd (show FieldsAt w B N m vb by rw [hme];exact HG.out.atFields)
 have HLC:=Hd (show cs[12]?=some (.slice va l.length vc) by rw [hle];exact HH.out.fields)
 have HMC:=Hd (show ds[12]?=some (.slice vb m.length vd) by rw [hme];exact HG.out.fields)
 rw [← hle] at efields hf HQ
 rw [← hme] at ffields hf HQ
 clear hle hme hl hs
 clear hv hu hh hg ca cb fa fb
 go_enter Tryz.func32,Tryz.ntmps32
 go_wp2_with fail
 clear ek fk efields ffields
 go_loopw [7,8] (fun v x wr=>∃ (i:Nat) (M:List (ByteArray×ValD)) (a':Option Addr) (c':Nat),v=.slice a' M.length c'∧x=.int .i64 i∧i≤m.length∧Hid (M=mergeF l (m.take i))∧Tval w wr cs ds [.int .i64 0,.bool false,.bool false,.string ⟨#[]⟩,.int .i64 0,.int .i64 0,.int .i64 0,.int .i64 0,.int .i64 0,.string ⟨#[]⟩,.slice none 0 0,.slice none 0 0,.slice none 0 0]∧RowsB wr B (w.heap.size+3) N M a') (fun _ x _=>m.length-(intOf x).toNat)
 case atStart=>exact ⟨0,l,va,vc,rfl,rfl,Nat.zero_le _,Hd rfl,hT.out,RowsB.of (HFA.out.below (hT.out.below.mono hB)) (Nat.le_trans hB hT.out.below.size)⟩
 case round =>
  obtain ⟨i,M,a',c',rfl,rfl,hi,HM,hT0,hR0⟩:=hrel
  clear hT
  have hT:=Hd hT0
  have HR:=Hd hR0
  clear hT0 hR0
  have ffields:=hT.out.two.cell HMC.out
  have HML:=Hd (show M.length≤N by rw [HM.out];have:=mergeF_len (m.take i) l;rw [List.length_take] at this;omega)
  by_cases hlt:i<m.length
  case neg =>
   have hie:i=m.length:=by omega
   have HQ2:=Hd (show plusV a b=resD (mapD M) by rw [HQ.out,HM.out,hie,List.take_length])
   clear hie
   go_wp2_with fail
   refine (result_rex (mapD M) wr wr.heap.size N (mapR M a' c') hN (Nat.le_refl _) (mapD_at c' HML.out (HR.out.fields (Nat.le_trans hB hT.out.below.size)))).mono ?_
   rintro e wE ⟨hor,hb⟩
   have hT1:=Hd (hT.out.later hb)
   have HR1:=Hd (HR.out.later hb (Nat.le_trans hB hT.out.below.size))
   clear hb
   rcases hor with ⟨hk,rfl⟩ | ⟨hk,rfl⟩
   ·have HQ3:=Hd (show plusV a b=(mapD M,0) by rw [HQ2.out];exact resD_ok hk)
    have hlen:(mapR M a' c').length=13:=rfl
    have ONE:=Hd (show ∀ v∈mapR M a' c',v.oneCell'=true from mapR_one M a' c')
    clear hk
    go_wp2_with ((with_reducible show wpList _ _ _ (⟨none,.store 30 (.tmp 4) _,_,_,_,_⟩::_) _ _);refine wpList_store_row rfl 30 _ _ rfl (w.heap.size+1+1) (mapR M a' c').toArray rfl rfl 30 zeroV hT1.out.res (row_size hlen) (row_zero hlen) (Go.all_oneCell_toArray ONE.out) ?_)
    refine bodyPost_ret (results_cell_row2 rfl _ _ (w.heap.size+1+1) 30 _ (0,0) _ rfl (hT1.out.put (mapR M a' c')).res Tryz.underlying30 rfl (row_size hlen)) rfl ?_
    rw [HQ3.out]
    have hF:=(hT1.out.put (mapR M a' c')).below
    exact ⟨mapR M a' c',rfl,fun d hd=>mapD_at c' HML.out (((HR1.out.setRow (by omega) (by omega) _).apart hd (by omega) (Nat.le_trans hB hF.size)).fields (Nat.le_trans (Nat.le_trans hB hF.size) hd.size)),hF⟩
   ·have HQ3:=Hd (show plusV a b=(zeroD,chkD (mapD M)) by rw [HQ2.out];unfold resD;rw [if_neg hk])
    obtain ⟨k,hk2⟩:∃ k,k=chkD (mapD M):=⟨_,rfl⟩
    rw [← hk2] at HQ3 ⊢
    clear hk hk2 hT
    have hT:=hT1
    go_wp2_with ((with_reducible show wpList _ _ _ (⟨none,.store 30 (.tmp 4) _,_,_,_,_⟩::_) _ _);refine wpList_store_row rfl 30 _ _ rfl (w.heap.size+1+1) zeroV rfl rfl 30 zeroV hT.out.res (sizeZ) (rfl) (oneZ) ?_)
    refine bodyPost_ret (results_cell_row2 rfl _ _ (w.heap.size+1+1) 30 _ (0,0) _ rfl (hT.out.put zeroV.toList).res Tryz.underlying30 rfl sizeZ) rfl ?_
    exact zero_intoB hT.out (HQ3.out)
  have hb1:=HFB.out.below (hT.out.below.mono hB)
  obtain ⟨b0,o0,f,hvb,hb0,hf0,hc0⟩:=hb1.rows (l:=m) (by intro h;rw [h] at hlt;simp at hlt)
  subst hvb
  obtain ⟨xs,hxs,hxk,hxv⟩:=hf0 i hlt
  obtain ⟨x,hx⟩:∃ x,x=f i:=⟨_,rfl⟩
  rw [← hx] at hxs
  have X14:=Hd (show x.length=14 by rw [hx];exact hf0.len i hlt)
  have XC:=Hd (show CellsAt wr b0 (o0+i * 14) x by rw [hx];exact hc0 i hlt)
  have HX:=Hd hxs
  have HK:=Hd hxk
  have HXV:=Hd hxv
  have HM2:=Hd (mergeF_take (a:=l) hlt)
  clear hb1 hf0 hc0 hx hxs hxk hxv
  go_wp2_with ((with_reducible show wpList _ _ _ (⟨some 82,_,_,_,_,_⟩::_) _ _);refine wpList_load_mid rfl 77 _ rfl b0 (o0+i * 14) rfl x _ XC.out.range Tryz.underlying77 rfl (sizeFLD14 X14.out) ?_)
  refine (put_rx M m[i].1 m[i].2 a' c' B (w.heap.size+3) N wr xs x HX.out (by have:=HML.out;omega) HK.out (Nat.le_trans hB hT.out.below.size) hT.out.size HR.out HXV.out).mono ?_
  rintro e w2 ⟨a2,c2,rfl,hb,hR2⟩
  have hT1:=Hd (hT.out.later hb)
  have HR2:=Hd hR2
  clear hb hR2 hT
  go_wp2_with fail
  go_roundw
  case rel=>exact ⟨i+1,_,a2,c2,rfl,by go_num,by omega,Hd (by rw [HM2.out,← HM.out]),hT1.out,HR2.out⟩
  case measure=>simp [intOf];omega
set_option maxRecDepth 100000 in
set_option maxHeartbeats 3200000 in
theorem plusbm_p (a b:ValD) (w:World) (B N:Nat) (cs ds:List Value) (hB:B≤w.heap.size) (hN:N≤4294967296) (hN2:120≤N) (ca:chkD a=0) (cb:chkD b=0) (fa:fitsV 60 a) (fb:fitsV 60 b) (hs:a.text.size+b.text.size≤N) (hl:a.list.length+b.list.length≤N) (hf:a.fields.length+b.fields.length≤N) (hv:ValD.At w B N a cs) (hu:ValD.At w B N b ds) (ha:a.kind=7) (hb:b.kind=7) :
 Calls Tryz.prog 24 #[.agg cs.toArray,.agg ds.toArray] w (ResR B N (plusV a b) w):=by
 have hq:=And.intro (And.intro (And.intro (And.intro hB hN) hN2) (And.intro ca cb)) (And.intro (And.intro fa fb) (And.intro hs (And.intro hl hf)));clear hq
 obtain ⟨ya,la,va,yc,lc,vc,hh⟩:=hv.has
 obtain ⟨yb,lb,vb,yd,ld,vd,hg⟩:=hu.has
 have HV:=Hd hv
 have HU:=Hd hu
 have HH:=Hd hh
 have HG:=Hd hg
 have hz1:=Hd (show (Tryz.prog.info? 30).map (·.size)=some cs.length by rw [hv.len];exact sizeV)
 have hz2:=Hd (show (Tryz.prog.info? 30).map (·.size)=some ds.length by rw [hu.len];exact sizeV)
 have DA:=Hd (okC_of 48 a 0 ca)
 have DB:=Hd (okC_of 48 b 0 cb)
 have CA:=Hd ca
 have CB:=Hd cb
 have FA:=Hd fa
 have FB:=Hd fb
 have hT:=Hd (tval w cs ds [.int .i64 0,.bool false,.bool false,.string ⟨#[]⟩,.int .i64 0,.int .i64 0,.int .i64 0,.int .i64 0,.int .i64 0,.string ⟨#[]⟩,.slice none 0 0,.slice none 0 0,.slice none 0 0])
 have ek:=hT.out.one.cell hh.kind
 have fk:=hT.out.two.cell hg.kind
 have HQ:=Hd (show plusV a b=resD (mapD (mergeF a.fields b.fields)) by unfold plusV;rw [if_neg (by omega),if_neg (by omega),if_neg (by omega),if_neg (by omega),if_neg (by omega),if_neg (by omega),if_pos ha])
 rw [ha] at ek
 rw [hb] at fk
 have HDA:=Hd (keysL_of DA.out)
 have HDB:=Hd (keysL_of DB.out)
 have HFL:=Hd hf
 clear ha hb hf
 clear hv hu hh hg ca cb fa fb
 go_enter Tryz.func24,Tryz.ntmps24
 go_wp2_with (first | ((with_reducible show wpList _ _ _ (⟨some 67,_,_,_,_,_⟩::_) _ _);refine wpList_load_mid rfl 30 _ rfl (w.heap.size) 0 rfl cs _ hT.out.one.range Tryz.underlying30 rfl hz1.out ?_) | ((with_reducible show wpList _ _ _ (⟨some 68,_,_,_,_,_⟩::_) _ _);refine wpList_load_mid rfl 30 _ rfl (w.heap.size+1) 0 rfl ds _ hT.out.two.range Tryz.underlying30 rfl hz2.out ?_))
 refine (merge_p a b _ B N cs ds hN (Nat.le_trans hB hT.out.below.size) FA.out FB.out HDA.out HDB.out HFL.out (HV.out.below (hT.out.below.mono hB)) (HU.out.below (hT.out.below.mono hB))).mono ?_
 rintro e wE ⟨xs,rfl,hsol,hb⟩
 obtain ⟨r,hr⟩:∃ r,r=resD (mapD (mergeF a.fields b.fields)):=⟨_,rfl⟩
 rw [← hr] at hsol ⊢
 have HQ:=Hd (show plusV a b=r by rw [HQ.out,hr])
 have hlen:=hsol.here.len
 have AT:=Hd hsol.here
 have S1:=Hd hsol
 have hT1:=Hd (hT.out.later hb)
 clear hsol hb hr
 obtain ⟨rv,rk⟩:=r
 go_wp2_with ((with_reducible show wpList _ _ _ (⟨none,.store 30 (.tmp 4) _,_,_,_,_⟩::_) _ _);refine wpList_store_row rfl 30 _ _ rfl (w.heap.size+1+1) xs.toArray rfl rfl 30 zeroV hT1.out.res (row_size hlen) (row_zero hlen) (row_ones AT.out) ?_)
 refine bodyPost_ret (results_cell_row2 rfl _ _ (w.heap.size+1+1) 30 _ (0,0) _ rfl (hT1.out.put xs).res Tryz.underlying30 rfl (row_size hlen)) rfl ?_
 rw [HQ.out]
 exact res_intoB hB hT.out hT1.out S1.out
theorem plusvb_p (a b:ValD) (w:World) (B N:Nat) (cs ds:List Value) (hB:B≤w.heap.size) (hN:N≤4294967296) (hN2:120≤N) (ca:chkD a=0) (cb:chkD b=0) (fa:fitsV 60 a) (fb:fitsV 60 b) (hs:a.text.size+b.text.size≤N) (hl:a.list.length+b.list.length≤N) (hf:a.fields.length+b.fields.length≤N) (hv:ValD.At w B N a cs) (hu:ValD.At w B N b ds) :
 Calls Tryz.prog 24 #[.agg cs.toArray,.agg ds.toArray] w (ResR B N (plusV a b) w):=by
 have hk:=kind_range ca
 by_cases h0:a.kind=0
 ·exact plusb0_p a b w B N cs ds hB hN hN2 ca cb fa fb hs hl hf hv hu h0
 by_cases h1:b.kind=0
 ·exact plusb1_p a b w B N cs ds hB hN hN2 ca cb fa fb hs hl hf hv hu h0 h1
 by_cases h2:a.kind=b.kind
 ·rcases (show a.kind=1∨a.kind=2∨a.kind=3∨a.kind=4∨a.kind=5∨a.kind=6∨a.kind=7 by omega) with h | h | h | h | h | h | h
  ·exact plusbz1_p a b w B N cs ds hB hN hN2 ca cb fa fb hs hl hf hv hu h (by omega)
  ·exact plusbn_p a b w B N cs ds hB hN hN2 ca cb fa fb hs hl hf hv hu h (by omega)
  ·exact plusbz3_p a b w B N cs ds hB hN hN2 ca cb fa fb hs hl hf hv hu h (by omega)
  ·exact plusbt_p a b w B N cs ds hB hN hN2 ca cb fa fb hs hl hf hv hu h (by omega)
  ·exact plusbz5_p a b w B N cs ds hB hN hN2 ca cb fa fb hs hl hf hv hu h (by omega)
  ·exact plusbl_p a b w B N cs ds hB hN hN2 ca cb fa fb hs hl hf hv hu h (by omega)
  ·exact plusbm_p a b w B N cs ds hB hN hN2 ca cb fa fb hs hl hf hv hu h (by omega)
 ·exact plusb2_p a b w B N cs ds hB hN hN2 ca cb fa fb hs hl hf hv hu h0 h1 h2
theorem plusvb_r (a b:ValD) (w:World) (B N:Nat) (cs ds:List Value) (hB:B≤w.heap.size) (hN:N≤4294967296) (hN2:120≤N) (ca:chkD a=0) (cb:chkD b=0) (fa:fitsV 60 a) (fb:fitsV 60 b) (hs:a.text.size+b.text.size≤N) (hl:a.list.length+b.list.length≤N) (hf:a.fields.length+b.fields.length≤N) (hv:ValD.At w B N a cs) (hu:ValD.At w B N b ds) :
 Calls Tryz.prog 32 #[.agg cs.toArray,.agg ds.toArray] w (ResR B N (plusV a b) w):=by
 have hk:=kind_range ca
 by_cases h0:a.kind=0
 ·exact plusb0_r a b w B N cs ds hB hN hN2 ca cb fa fb hs hl hf hv hu h0
 by_cases h1:b.kind=0
 ·exact plusb1_r a b w B N cs ds hB hN hN2 ca cb fa fb hs hl hf hv hu h0 h1
 by_cases h2:a.kind=b.kind
 ·rcases (show a.kind=1∨a.kind=2∨a.kind=3∨a.kind=4∨a.kind=5∨a.kind=6∨a.kind=7 by omega) with h | h | h | h | h | h | h
  ·exact plusbz1_r a b w B N cs ds hB hN hN2 ca cb fa fb hs hl hf hv hu h (by omega)
  ·exact plusbn_r a b w B N cs ds hB hN hN2 ca cb fa fb hs hl hf hv hu h (by omega)
  ·exact plusbz3_r a b w B N cs ds hB hN hN2 ca cb fa fb hs hl hf hv hu h (by omega)
  ·exact plusbt_r a b w B N cs ds hB hN hN2 ca cb fa fb hs hl hf hv hu h (by omega)
  ·exact plusbz5_r a b w B N cs ds hB hN hN2 ca cb fa fb hs hl hf hv hu h (by omega)
  ·exact plusbl_r a b w B N cs ds hB hN hN2 ca cb fa fb hs hl hf hv hu h (by omega)
  ·exact plusbm_r a b w B N cs ds hB hN hN2 ca cb fa fb hs hl hf hv hu h (by omega)
 ·exact plusb2_r a b w B N cs ds hB hN hN2 ca cb fa fb hs hl hf hv hu h0 h1 h2
end Go.Proofs.YtmjfggadehkbjaaGreatDoor
