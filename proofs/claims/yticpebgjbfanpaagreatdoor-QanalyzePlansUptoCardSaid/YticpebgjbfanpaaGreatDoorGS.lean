/- The program's lists in new memory: with of strings and of locals. -/
import Derived.Test.YticpebgjbfanpaaGreatDoorGA
import Derived.Test.YticpebgjbfanpaaGreatDoorShelf
import Derived.Test.YticpebgjbfanpaaGreatDoorGR
namespace Go.Proofs.YticpebgjbfanpaaGreatDoor
open Go.RowKit
def OwnS (l:List ByteArray) (w:World) (e:Ending) (w':World):Prop:=∃ v,e=.returned v∧w'.ownsRow w.heap.size 9 1 v l.length (l.map .string)∧Below w.heap.size w w'
theorem clone_s (l:List ByteArray) (a:Option Addr) (c:Nat) (w:World) (lo B:Nat) (hl:l.length≤1073741824) (h:NmsAt w lo B l a):Calls Tryz.prog 123 #[.slice a l.length c] w (OwnS l w):=by
 cases a with
 | none =>
   have h0:l=[]:=by
    rcases h with h | ⟨b,h,_⟩
    ·exact h
    ·cases h
   subst h0
   refine (Tryz.slices_Clone_string_nil 0 c w).mono ?_
   rintro e w' ⟨rfl,rfl⟩
   exact ⟨_,rfl,World.ownsRow_nil _ _ _ _,Below.refl _ _⟩
 | some ad =>
   by_cases hn:l=[]
   ·subst hn
    refine (Tryz.slices_Clone_string_zero ad c w).mono ?_
    rintro e w' ⟨v,rfl,h1,_,h2⟩
    exact ⟨v,rfl,h1,h2⟩
   ·obtain ⟨b,e,_,_,hget⟩:=h.get hn
    cases e
    refine (Tryz.slices_Clone_string b 0 l.length c l w (Nat.le_refl _) (by omega) (fun j hj=>?_)).mono ?_
    ·rw [Nat.zero_add,hget j hj,List.getD_eq_getElem?_getD,List.getElem?_eq_getElem hj]
     rfl
    ·rintro e w' ⟨v,rfl,h1,_,h2⟩
     rw [List.take_length] at h1
     exact ⟨v,rfl,h1,h2⟩
set_option maxRecDepth 100000 in
set_option maxHeartbeats 1600000 in
theorem with_s (l:List ByteArray) (s:ByteArray) (a:Option Addr) (c:Nat) (w:World) (lo1 lo B:Nat) (hl:l.length≤1073741824) (hlo:lo≤w.heap.size) (h:NmsAt w lo1 B l a) :
 Calls Tryz.prog 86 #[.slice a l.length c,.string s] w (NmsR lo (l++[s]) w):=by
 obtain ⟨i0,hi,hz0,hz1,hz2⟩:=info_parts infoSt
 have HI:=Hd hi
 have HZ0:=Hd hz0
 have HZ1:=Hd hz1
 have HZ2:=Hd hz2
 have HA:=Hd h
 clear hi hz0 hz1 hz2 h
 go_enter Tryz.func86,Tryz.ntmps86
 go_wp2_with fail
 refine (clone_s l a c w lo1 B hl HA.out).mono ?_
 rintro e w1 ⟨v1,rfl,hown1,hb1⟩
 have HO1:=Hd hown1
 have HB1:=Hd hb1
 clear hown1 hb1
 go_wp2_with (at_builtin;refine wpList_append_src rfl _ _ 55 rfl w.heap.size 9 i0 (.string ⟨#[]⟩) 1 16 Tryz.underlying55 HI.out HZ0.out HZ1.out HZ2.out rfl (by decide) _ _ _ rfl (HO1.out.alloc _) (some ⟨w1.heap.size,0,none⟩) 1 1 [.string s] rfl rfl (src_new w1 [.string s] 9 1) ?c3 ?c4 ?c5 ?c6 ?_)
 case c3=>intro u hu;simp at hu;subst hu;rfl
 case c4=>unfold maxLen;omega
 case c5=>omega
 case c6=>have:=HB1.out.size;simp;omega
 intro v2 w2 hown2 hgrow2
 have HB2:=Hd (grown_below HB1.out hgrow2 (fun k hk=>(HO1.out.lt k hk).1))
 have HO2:=Hd hown2
 clear hown2 hgrow2
 go_wp2
 go_ret
 exact nms_ret HO2.out hlo (by simp) (by simp) HB2.out
abbrev sgC (l:List (ByteArray×Int)):List Value:=l.flatMap fun x=>[Value.string x.1,.int .i64 x.2]
def OwnG (l:List (ByteArray×Int)) (w:World) (e:Ending) (w':World):Prop:=∃ v,e=.returned v∧w'.ownsRow w.heap.size 127 2 v l.length (sgC l)∧Below w.heap.size w w'
theorem infoLc:(Tryz.prog.info? 127).map (fun i=>(i.zero,i.size,i.bytes))=some (some (.agg #[.string ⟨#[]⟩,.int .i64 0]),2,24):=by kernel_rfl
set_option maxRecDepth 100000 in
set_option maxHeartbeats 1600000 in
theorem clone_g (l:List (ByteArray×Int)) (a:Option Addr) (c:Nat) (w:World) (lo B:Nat) (hl:l.length≤1073741824) (hB:B≤w.heap.size) (h:SgsAt w lo B l a) :
 Calls Tryz.prog 85 #[.slice a l.length c] w (OwnG l w):=by
 obtain ⟨i0,hi,hz0,hz1,hz2⟩:=info_parts infoLc
 have HI:=Hd hi
 have HZ0:=Hd hz0
 have HZ1:=Hd hz1
 have HZ2:=Hd hz2
 clear hi hz0 hz1 hz2
 have q26:∀ (w:World) (a:Option Addr) (n c n' c':Nat),(binOp .eql 85 (.slice a n c) (.slice none n' c')).run Tryz.prog w=.ok (.bool a.isNone) w:=fun w a n c n' c'=>Lib.run_eql_slice_nil w _ _ a n c n' c' Tryz.underlying85
 cases a with
 | none =>
   have h0:l=[]:=by
    rcases h with h | ⟨b,h,_⟩
    ·exact h
    ·cases h
   subst h0
   clear h
   go_enter Tryz.func85,Tryz.ntmps85
   go_wp2_with fail
   go_ret
   exact ⟨_,rfl,World.ownsRow_nil _ _ _ _,Below.refl _ _⟩
 | some ad =>
   have HS:=Hd ((h.keep (Kept.of_below ((belowBox w (.cells #[] 127)).mono hB))).src)
   have HLEN:=Hd (sgs_len l)
   clear h
   go_enter Tryz.func85,Tryz.ntmps85
   go_wp2_with (at_builtin;refine wpList_append_src rfl _ _ 85 rfl w.heap.size 127 i0 (.agg #[.string ⟨#[]⟩,.int .i64 0]) 2 24 Tryz.underlying85 HI.out HZ0.out HZ1.out HZ2.out rfl (by decide) _ _ _ rfl (World.ownsRow_made w #[] 0 (Nat.le_refl _) (Nat.zero_le _) rfl) (some ad) l.length c (sgC l) rfl HLEN.out HS.out (sgs_one l) ?c4 ?c5 ?c6 ?_)
   case c4=>unfold maxLen;omega
   case c5=>omega
   case c6=>simp
   intro v1 w1 hown1 hgrow1
   have HO1:=Hd hown1
   have HB1:=Hd (show Below w.heap.size w w1 from (belowBox w _).grown hgrow1 (by simp) (by intro k hk;simp [Value.ownBlock] at hk;omega))
   clear hown1 hgrow1
   go_wp2
   go_ret
   exact ⟨_,rfl,by simpa using HO1.out,HB1.out⟩
def SgsR (lo:Nat) (l:List (ByteArray×Int)) (w:World) (e:Ending) (w':World):Prop:=∃ (a:Option Addr) (c:Nat),e=.returned (.slice a l.length c)∧l.length≤c∧c≤maxLen∧SgsAt w' lo w'.heap.size l a∧Below w.heap.size w w'
theorem sgC_snoc (l:List (ByteArray×Int)) (s:ByteArray) (n:Int):sgC (l++[(s,n)])=sgC l++[.string s,.int .i64 n]:=by
 unfold sgC
 rw [List.flatMap_append]
 rfl
theorem own_less {w:World} {b b' n sz:Nat} {t:TypeId} {v:Value} {xs:List Value} (h:w.ownsRow b t sz v n xs) (hb:b'≤b):w.ownsRow b' t sz v n xs:=⟨h.1,by
 rcases h.2 with h | ⟨g,cap,cur,h0,h1,h2⟩
 ·exact .inl h
 ·exact .inr ⟨g,cap,cur,h0,Nat.le_trans hb h1,h2⟩⟩
structure Box1 (w u:World) (cs:List Value):Prop where
 row:CellsAt u w.heap.size 0 cs
 low:Below w.heap.size w u
 size:w.heap.size+1≤u.heap.size
theorem Box1.below {w u u':World} {cs:List Value} (h:Box1 w u cs) (hb:Below u.heap.size u u'):Box1 w u' cs:=⟨h.row.then hb (by have:=h.size;omega),belowThen h.low hb,Nat.le_trans h.size hb.size⟩
theorem Box1.start (w:World) (cs:List Value) (t:TypeId):Box1 w (w.alloc (.cells cs.toArray t)) cs:=⟨box_at w cs t,belowBox w _,by rw [World.size_alloc];omega⟩
theorem drewW (w:World):Below w.heap.size w w.drew:=⟨rfl,rfl,rfl,Nat.le_refl _,fun _ _=>rfl⟩
set_option maxRecDepth 100000 in
set_option maxHeartbeats 3200000 in
theorem with_g (l:List (ByteArray×Int)) (s:ByteArray) (n:Int) (a:Option Addr) (c:Nat) (w:World) (lo1 lo B:Nat) (hl:l.length≤536870912) (hlo:lo≤w.heap.size) (hB:B≤w.heap.size) (h:SgsAt w lo1 B l a) :
 Calls Tryz.prog 60 #[.slice a l.length c,.agg #[.string s,.int .i64 n]] w (SgsR lo (l++[(s,n)]) w):=by
 obtain ⟨i0,hi,hz0,hz1,hz2⟩:=info_parts infoLc
 have HI:=Hd hi
 have HZ0:=Hd hz0
 have HZ1:=Hd hz1
 have HZ2:=Hd hz2
 have HA:=Hd h
 have B0:=Hd (Box1.start w [.string s,.int .i64 n] 127)
 clear hi hz0 hz1 hz2 h
 go_enter Tryz.func60,Tryz.ntmps60
 go_wp2_with fail
 refine wp_region_held_drew (S:=fun u=>Box1 w u [.string s,.int .i64 n]) (by kernel_rfl) (B0.out.below (drewW _)) (fun hHeld=>?_)
 refine' wpAnyH_take (i:=0) (v:=.slice a l.length c) rfl (by kernel_rfl) (by kernel_rfl) (by kernel_rfl) (fun _ _ _ h=>h) (.inl ⟨by rfl,fun u hu=>(by go_simp)⟩) hHeld ?_
 simp only [Act.put,List.setIfInBounds_toArray]
 refine' wpAnyH_take (i:=2) (v:=.agg #[.string s,.int .i64 n]) rfl (by kernel_rfl) (by kernel_rfl) (by kernel_rfl) (fun _ _ _ h=>h) (.inl ⟨by rfl,fun u hu=>(by have h0:=hu.row.get0 (j:=0) rfl;have h1:=hu.row.get0 (j:=1) rfl;go_simp)⟩) hHeld ?_
 simp only [Act.put]
 refine wpAnyH_ready (rs:=[1,3]) (by kernel_rfl) (by simp) ?_
 refine AllReadyH.cons rfl (fun K hK=>?_) (AllReadyH.cons rfl (fun K hK=>?_) AllReadyH.nil)
 ·go_simp
  refine (clone_g l a c _ lo1 B (by omega) (Nat.le_trans hB hHeld.low.size) (HA.out.keep (Kept.of_below (hHeld.low.mono hB)))).mono ?_
  rintro e u1 ⟨v1,rfl,hown1,hb1⟩
  have HO1:=Hd (own_less hown1 hHeld.size)
  refine hK.out _ _ (hHeld.below hb1) (fun hHeld1=>?_)
  clear hK K hHeld hown1
  refine rd1 3 rfl (fun K hK=>?_)
  go_simp
  refine hK.out _ _ (hHeld1.below (belowBox _ _)) (fun hHeld2=>?_)
  clear hK K
  refine rd1 4 rfl (fun K hK=>?_)
  rw [if_pos (by kernel_rfl)]
  refine wp_append_own _ _ _ 85 rfl (w.heap.size+1) 127 i0 (.agg #[.string ⟨#[]⟩,.int .i64 0]) 2 24 Tryz.underlying85 HI.out HZ0.out HZ1.out HZ2.out rfl (by decide) v1 l.length (sgC l) rfl (HO1.out.alloc _) ⟨u1.heap.size,0,none⟩ 1 1 [.string s,.int .i64 n] rfl rfl ((src_new u1 [.string s,.int .i64 n] 127 1).2 _ rfl) ?_ (by unfold maxLen;omega) (by omega) (by have:=hHeld2.size;omega) (fun v' u3 ho3 hg3 _=>?_)
  ·intro u hu;simp only [List.mem_cons,List.mem_nil_iff,or_false] at hu;rcases hu with rfl | rfl<;>rfl
  have HO3:=Hd ho3
  have HB3:=Hd (show Below (w.heap.size+1) _ u3 from (Below.refl _ _).grown hg3 hHeld2.size (fun k hk=>(HO1.out.lt k hk).1))
  have HX3:=Hd (show Box1 w u3 [.string s,.int .i64 n] from ⟨hHeld2.row.below HB3.out (by omega),hHeld2.low.trans (HB3.out.mono (by omega)),Nat.le_trans hHeld2.size HB3.out.size⟩)
  refine hK.out _ _ HX3.out (fun hHeldx=>?_)
  clear hK K hHeldx ho3 hg3
  refine rd1 5 rfl (fun K hK=>?_)
  go_simp
  refine hK.out _ _ HX3.out (fun hHeldx=>?_)
  clear hK K hHeldx
  refine wpAnyH_done (by kernel_rfl) ?_ _
  go_wp2_with fail
  go_ret
  obtain ⟨a3,c3,rfl,g1,g2,g3⟩:=sgs_own (l:=l++[(s,n)]) (lo:=lo) (by have h:=HO3.out;rw [← sgC_snoc] at h;simpa using h) (show lo≤w.heap.size+1 by omega)
  exact ⟨a3,c3,rfl,g1,g2,g3,HX3.out.low⟩
 ·go_simp
  refine hK.out _ _ (hHeld.below (belowBox _ _)) (fun hHeld1=>?_)
  clear hK K
  refine rd1 1 rfl (fun K hK=>?_)
  go_simp
  refine (clone_g l a c _ lo1 B (by omega) (Nat.le_trans hB hHeld1.low.size) (HA.out.keep (Kept.of_below (hHeld1.low.mono hB)))).mono ?_
  rintro e u1 ⟨v1,rfl,hown1,hb1⟩
  have hsz2:((w.alloc (.cells #[.string s,.int .i64 n] 127)).alloc (.cells #[.string s,.int .i64 n] 127)).drew.heap.size=w.heap.size+1+1:=by
   show ((w.alloc (.cells #[.string s,.int .i64 n] 127)).alloc (.cells #[.string s,.int .i64 n] 127)).heap.size=_
   rw [World.size_alloc,World.size_alloc]
  have HO1:=Hd (show u1.ownsRow (w.heap.size+1) 127 2 v1 l.length (sgC l) by rw [hsz2] at hown1;exact ⟨hown1.1,by
   rcases hown1.2 with h | ⟨g,cap,cur,h0,h1,h2⟩
   ·exact .inl h
   ·exact .inr ⟨g,cap,cur,h0,by omega,h2⟩⟩)
  have HSR:=Hd (show ∀ (j:Nat) (u:Value),[Value.string s,.int .i64 n][j]?=some u→u1.cell? ((⟨w.heap.size+1,0,none⟩:Addr).add j)=some u from fun j u hj=>by
   have h1:=(src_new (w.alloc (.cells #[.string s,.int .i64 n] 127)) [.string s,.int .i64 n] 127 1).2 _ rfl j u hj
   rw [World.size_alloc] at h1
   rw [addr_add'] at h1 ⊢
   rw [hb1.cell (p:=⟨w.heap.size+1,0+j,none⟩) (by rw [hsz2];show w.heap.size+1<w.heap.size+1+1;omega)]
   exact h1)
  refine hK.out _ _ (hHeld1.below hb1) (fun hHeld2=>?_)
  clear hK K hHeld1 hown1 hb1 hsz2
  refine rd1 4 rfl (fun K hK=>?_)
  rw [if_pos (by kernel_rfl)]
  refine wp_append_own _ _ _ 85 rfl (w.heap.size+1) 127 i0 (.agg #[.string ⟨#[]⟩,.int .i64 0]) 2 24 Tryz.underlying85 HI.out HZ0.out HZ1.out HZ2.out rfl (by decide) v1 l.length (sgC l) rfl HO1.out ⟨w.heap.size+1,0,none⟩ 1 1 [.string s,.int .i64 n] rfl rfl HSR.out ?_ (by unfold maxLen;omega) (by omega) (by have:=hHeld2.size;omega) (fun v' u3 ho3 hg3 _=>?_)
  ·intro u hu;simp only [List.mem_cons,List.mem_nil_iff,or_false] at hu;rcases hu with rfl | rfl<;>rfl
  have HO3:=Hd ho3
  have HB3:=Hd (show Below (w.heap.size+1) _ u3 from (Below.refl _ _).grown hg3 hHeld2.size (fun k hk=>(HO1.out.lt k hk).1))
  have HX3:=Hd (show Box1 w u3 [.string s,.int .i64 n] from ⟨hHeld2.row.below HB3.out (by omega),hHeld2.low.trans (HB3.out.mono (by omega)),Nat.le_trans hHeld2.size HB3.out.size⟩)
  refine hK.out _ _ HX3.out (fun hHeldx=>?_)
  clear hK K hHeldx ho3 hg3
  refine rd1 5 rfl (fun K hK=>?_)
  go_simp
  refine hK.out _ _ HX3.out (fun hHeldx=>?_)
  clear hK K hHeldx
  refine wpAnyH_done (by kernel_rfl) ?_ _
  go_wp2_with fail
  go_ret
  obtain ⟨a3,c3,rfl,g1,g2,g3⟩:=sgs_own (l:=l++[(s,n)]) (lo:=lo) (by have h:=HO3.out;rw [← sgC_snoc] at h;simpa using h) (show lo≤w.heap.size+1 by omega)
  exact ⟨a3,c3,rfl,g1,g2,g3,HX3.out.low⟩
end Go.Proofs.YticpebgjbfanpaaGreatDoor

/- The program's scopes: variable,params,inner. -/
namespace Go.Proofs.YticpebgjbfanpaaGreatDoor
open Go.RowKit
theorem NmsAt.setCell {u:World} {lo B:Nat} {l:List ByteArray} {a:Option Addr} (h:NmsAt u lo B l a) {q:Nat} {x:Option Addr} {n c:Nat} (hq:u.cell? ⟨q,0,none⟩=some (.slice x n c)) (j:Nat) (v:Value):NmsAt (u.setCell ⟨q,j,none⟩ v) lo B l a:=by
 rcases h with h | ⟨b,h1,h2,h3,h4⟩
 ·exact .inl h
 ·cases hl:l with
  | nil=>exact .inl rfl
  | cons y r =>
    have h0:=h4 0 y (by rw [hl];rfl)
    have hb:b≠q:=fun e=>by
     subst e
     rw [hq] at h0
     cases h0
    rw [← hl]
    refine .inr ⟨b,h1,h2,h3,fun k z hz=>?_⟩
    rw [← h4 k z hz]
    simp only [World.cell?]
    rw [heap_setCell_other _ _ _ _ hb]
theorem SgsAt.setCell {u:World} {lo B:Nat} {l:List (ByteArray×Int)} {a:Option Addr} (h:SgsAt u lo B l a) {q:Nat} {x:Option Addr} {n c:Nat} (hq:u.cell? ⟨q,0,none⟩=some (.slice x n c)) (j:Nat) (v:Value):SgsAt (u.setCell ⟨q,j,none⟩ v) lo B l a:=by
 rcases h with h | ⟨b,h1,h2,h3,h4⟩
 ·exact .inl h
 ·cases hl:l with
  | nil=>exact .inl rfl
  | cons y r =>
    have h0:=h4 0 (.string y.1) (by rw [hl];rfl)
    have hb:b≠q:=fun e=>by
     subst e
     rw [hq] at h0
     cases h0
    rw [← hl]
    refine .inr ⟨b,h1,h2,h3,fun k z hz=>?_⟩
    rw [← h4 k z hz]
    simp only [World.cell?]
    rw [heap_setCell_other _ _ _ _ hb]
theorem BoxM.setCell {w u:World} {cs zs:List Value} {t:TypeId} (h:BoxM w u cs zs t) (j:Nat) (v:Value):BoxM w (u.setCell ⟨w.heap.size,j,none⟩ v) (cs.set j v) zs t:=by
 refine ⟨?_,(heap_setCell_other _ _ _ _ (by simp)).trans h.out,h.low.setCell (Nat.le_refl _) v,by have:=h.size;simpa using this⟩
 rw [heap_setCell_same u w.heap.size j _ _ _ h.box]
 simp
theorem BoxM.frozen {w u:World} {cs zs:List Value} {t:TypeId} (h:BoxM w u cs zs t) (j:Nat):u.frozen? ⟨w.heap.size,j,none⟩=false:=frozen_of_row u w.heap.size j _ _ h.box
theorem with_sn (l:List ByteArray) (n:Nat) (hn:l.length=n) (s:ByteArray) (a:Option Addr) (c:Nat) (w:World) (lo1 lo B:Nat) (hl:l.length≤1073741824) (hlo:lo≤w.heap.size) (h:NmsAt w lo1 B l a) :
 Calls Tryz.prog 86 #[.slice a n c,.string s] w (NmsR lo (l++[s]) w):=by
 subst hn
 exact with_s l s a c w lo1 lo B hl hlo h
set_option maxRecDepth 100000 in
set_option maxHeartbeats 3200000 in
theorem variable_p (d:ScD) (s:ByteArray) (cs:List Value) (w:World) (lo B C:Nat) (hC:C≤1073741824) (hB:B≤w.heap.size) (hlo:lo≤w.heap.size) (h:ScD.At w lo B C d cs) :
 Calls Tryz.prog 81 #[.agg cs.toArray,.string s] w (ScW lo (C+1) ⟨d.vs++[s],d.ls,d.gs⟩ w):=by
 obtain ⟨va,la,ga,vc,lc,gc,rfl,hv,hls,hg,k1,k2,k3⟩:=h
 have HV:=Hd hv
 have HL:=Hd hls
 have HG:=Hd hg
 obtain ⟨nv,hnv⟩:∃ n,d.vs.length=n:=⟨_,rfl⟩
 obtain ⟨nl,hnl⟩:∃ n,d.ls.length=n:=⟨_,rfl⟩
 obtain ⟨ng,hng⟩:∃ n,d.gs.length=n:=⟨_,rfl⟩
 have HNV:=Hd hnv
 have HNL:=Hd hnl
 have HNG:=Hd hng
 have K1:=Hd k1
 have K2:=Hd k2
 have K3:=Hd k3
 rw [hnv,hnl,hng]
 clear hv hls hg hnv hnl hng k1 k2 k3
 have B0:=Hd (BoxM.start w [.slice va nv vc,.slice la nl lc,.slice ga ng gc] zero3 87)
 have z0:=B0.out.cell (j:=0) rfl
 go_enter Tryz.func81,Tryz.ntmps81
 go_wp2_with fail
 refine (with_sn d.vs nv HNV.out s va vc _ lo lo B (by have:=K1.out;omega) (by have:=B0.out.size;omega) (HV.out.keep (Kept.of_below (B0.out.low.mono hB)))).mono ?_
 rintro e u1 ⟨a1,c1,rfl,_,_,hn1,hb1⟩
 have B1:=Hd (B0.out.below hb1)
 have N1:=Hd hn1
 obtain ⟨m1,hm1⟩:∃ m,(d.vs++[s]).length=m:=⟨_,rfl⟩
 have HM1:=Hd hm1
 rw [hm1]
 clear hn1 hb1 hm1 z0
 have z1:=B1.out.cell (j:=0) rfl
 have f1:=B1.out.frozen 0
 have Z1:=Hd z1
 have B2:=Hd (show BoxM w (u1.setCell ⟨w.heap.size,0,none⟩ (.slice a1 m1 c1)) [.slice a1 m1 c1,.slice la nl lc,.slice ga ng gc] zero3 87 from B1.out.setCell 0 (.slice a1 m1 c1))
 go_wp2_with (first
  | (refine wpList_load_mid rfl 87 _ rfl w.heap.size 0 rfl [.slice a1 m1 c1,.slice la nl lc,.slice ga ng gc] _ B2.out.range Tryz.underlying87 rfl (by kernel_rfl) ?_)
  | (refine wpList_store_row rfl 87 _ _ rfl (w.heap.size+1) #[.slice a1 m1 c1,.slice la nl lc,.slice ga ng gc] rfl rfl 87 _ B2.out.out (by kernel_rfl) rfl (one3 ..) ?_))
 have HOUT:=setRow_heap (u1.setCell ⟨w.heap.size,0,none⟩ (.slice a1 m1 c1)) (w.heap.size+1) _ #[.slice a1 m1 c1,.slice la nl lc,.slice ga ng gc] _ _ B2.out.out
 refine bodyPost_ret (results_cell_row rfl _ _ (w.heap.size+1) 87 _ (0,0) _ rfl HOUT Tryz.underlying87 rfl (by kernel_rfl)) rfl ?_
 have hlow:Kept lo B w u1:=Kept.of_below (B1.out.low.mono hB)
 have hs1:=B1.out.size
 have A0:ScD.At u1 lo u1.heap.size (C+1) ⟨d.vs++[s],d.ls,d.gs⟩ [.slice a1 m1 c1,.slice la nl lc,.slice ga ng gc]:=by
  refine ⟨a1,la,ga,c1,lc,gc,by rw [HM1.out,HNL.out,HNG.out],N1.out,(HL.out.keep hlow).mono (by omega),(HG.out.keep hlow).mono (by omega),?_,?_,?_⟩
  ·have:=K1.out
   rw [List.length_append]
   show d.vs.length+1≤C+1
   omega
  ·have:=K2.out
   show d.ls.length≤C+1
   omega
  ·have:=K3.out
   show d.gs.length≤C+1
   omega
 have A1:ScD.At (u1.setCell ⟨w.heap.size,0,none⟩ (.slice a1 m1 c1)) lo u1.heap.size (C+1) ⟨d.vs++[s],d.ls,d.gs⟩ [.slice a1 m1 c1,.slice la nl lc,.slice ga ng gc]:=by
  obtain ⟨va',la',ga',vc',lc',gc',h0,h1,h2,h3,h4⟩:=A0
  exact ⟨va',la',ga',vc',lc',gc',h0,h1.setCell Z1.out 0 _,h2.setCell Z1.out 0 _,h3.setCell Z1.out 0 _,h4⟩
 have A2:=A1.setRow (q:=w.heap.size+1) (x:=none) (n:=0) (c:=0) (by rw [cell_of_row _ (w.heap.size+1) 0 _ _ _ B2.out.out];rfl) #[.slice a1 m1 c1,.slice la nl lc,.slice ga ng gc]
 exact ⟨_,[.slice a1 m1 c1,.slice la nl lc,.slice ga ng gc],rfl,rfl,A2.mono (by simp) (Nat.le_refl _),below_setRow B2.out.low (by omega) _⟩
theorem with_gn (l:List (ByteArray×Int)) (m:Nat) (hm:l.length=m) (s:ByteArray) (n:Int) (a:Option Addr) (c:Nat) (w:World) (lo1 lo B:Nat) (hl:l.length≤536870912) (hlo:lo≤w.heap.size) (hB:B≤w.heap.size) (h:SgsAt w lo1 B l a) :
 Calls Tryz.prog 60 #[.slice a m c,.agg #[.string s,.int .i64 n]] w (SgsR lo (l++[(s,n)]) w):=by
 subst hm
 exact with_g l s n a c w lo1 lo B hl hlo hB h
theorem sizePar:(Tryz.prog.info? 115).map (·.size)=some 2:=by kernel_rfl
set_option maxRecDepth 100000 in
set_option maxHeartbeats 3200000 in
theorem params_p (l:List ParD) (a:Option Addr) (c:Nat) (d:ScD) (cs:List Value) (w:World) (lo B C N:Nat) (hC:C≤268435456) (hN:N≤268435456) (hl:l.length≤N) (hB:B≤w.heap.size) (hlo:lo≤w.heap.size) (h:ScD.At w lo B C d cs) (hA:ParamsAt w B N l a) :
 Calls Tryz.prog 56 #[.agg cs.toArray,.slice a l.length c] w (ScW lo (C+l.length) (d.par l) w):=by
 have HP:=Hd hA
 have HS:=Hd (h.mono (B':=w.heap.size) (K':=C) hB (Nat.le_refl _))
 have hlen:=h.len
 have B0:=Hd (BoxM.start w cs zero3 87)
 clear hA h hlen
 go_enter Tryz.func56,Tryz.ntmps56
 go_wp2_with fail
 go_simp
 go_loopw [9] (fun i wr=>∃ k:Nat,k≤l.length∧i=.int .i64 k∧Hid (∃ d' es,d'=d.par (l.take k)∧BoxM w wr es zero3 87∧ScD.At wr lo wr.heap.size (C+k) d' es)) (fun i _=>l.length-(intOf i).toNat)
 case atStart =>
  refine ⟨0,by omega,rfl,Hd ⟨d,cs,by simp [ScD.par,pvars,pgs],B0.out,?_⟩⟩
  exact (HS.out.keep (Kept.of_below B0.out.low)).mono (K':=C+0) (show w.heap.size≤_ from B0.out.low.size) (by omega)
 case round =>
  obtain ⟨w1,rfl⟩:∃ w1,w1=wr:=⟨wr,rfl⟩
  obtain ⟨k,hk,rfl,HR⟩:=hrel
  obtain ⟨d1,es,hv1,hb1,hs1⟩:=HR.out
  have HV1:=Hd hv1
  have B1:=Hd hb1
  have S1:=Hd hs1
  have hesz:=Hd (show (Tryz.prog.info? 87).map (·.size)=some es.length by rw [hs1.len];kernel_rfl)
  clear hb1 hs1 HR hv1
  by_cases hlt:k<l.length
  ·obtain ⟨b,p,rfl,hb,hget⟩:=HP.out.get (by intro h;simp [h] at hlt)
   obtain ⟨ps,hps⟩:∃ ps,ps=(l[k]).cells:=⟨_,rfl⟩
   have q0:ps[0]?=some (.string (l[k]).name):=by rw [hps];rfl
   have q1:ps[1]?=some (.bool (l[k]).value):=by rw [hps];rfl
   have hpl2:ps.length=2:=by rw [hps];rfl
   have hpone:=Hd (show ps.toArray.all (·.oneCell')=true from Go.all_oneCell_toArray (fun u hu=>by
    rw [hps] at hu
    simp only [ParD.cells,List.mem_cons,List.mem_nil_iff,or_false] at hu
    rcases hu with rfl | rfl<;>rfl))
   have HR2:=Hd (show CellsAt w1 b (p+k * 2) ps by rw [hps];exact (hget k hlt).2.below (B1.out.low.mono hB) hb).range
   have hlp:=Hd (show (Tryz.prog.info? 115).map (·.size)=some ps.length by rw [hpl2];exact sizePar)
   have hlp2:=Hd (show (Tryz.prog.info? 115).map (·.size)=some ps.toArray.size by rw [List.size_toArray,hpl2];exact sizePar)
   have h2s:=Hd (show 2=ps.toArray.size by rw [List.size_toArray,hpl2])
   have PX:=Hd (box_at w1 ps 115)
   have B2:=Hd (B1.out.below (belowBox w1 (.cells ps.toArray 115)))
   have S2:=Hd ((S1.out.keep (Kept.of_below (belowBox w1 (.cells ps.toArray 115)))).mono (belowBox w1 (.cells ps.toArray 115)).size (Nat.le_refl _))
   have e0:=PX.out.get0 q0
   have e1:=PX.out.get0 q1
   have HNV:=Hd (d.par_step hlt)
   clear hget hps q0 q1 hpl2
   cases hval:l[k].value
   case true =>
    rw [hval] at e1
    have HVAL:=Hd hval
    clear hval
    go_wp2_with (first
     | (refine wpList_load_mid rfl 115 _ rfl b (p+k * 2) rfl ps _ HR2.out Tryz.underlying115 rfl hlp.out ?_)
     | (refine wpList_store_new rfl 115 _ _ rfl _ ps.toArray rfl rfl hlp2.out h2s.out hpone.out ?_)
     | (refine wpList_load_mid rfl 87 _ rfl w.heap.size 0 rfl es _ B2.out.range Tryz.underlying87 rfl hesz.out ?_))
    refine (variable_p d1 l[k].name es _ lo (w1.alloc (.cells ps.toArray 115)).heap.size (C+k) (by omega) (Nat.le_refl _) (Nat.le_trans hlo B2.out.low.size) S2.out).mono ?_
    rintro e w3 ⟨d3,es3,hv3,rfl,hs3,hb3⟩
    have B3:=Hd (B2.out.below hb3)
    have S3:=Hd hs3
    have hes3:=hs3.len
    have hez3:=Hd (show (Tryz.prog.info? 87).map (·.size)=some es3.toArray.size by rw [List.size_toArray,hes3];kernel_rfl)
    have hsame:=Hd (show es.toArray.size=es3.toArray.size by rw [List.size_toArray,List.size_toArray,hes3];exact S2.out.len)
    have HV3:=Hd (show d3=d.par (l.take (k+1)) by
     rw [hv3,HNV.out,← HV1.out]
     unfold ScD.push
     rw [HVAL.out]
     rfl)
    clear hs3 hb3 hes3 hv3 e0 e1
    go_wp2_with (refine wpList_store_row rfl 87 _ _ rfl w.heap.size es3.toArray rfl rfl 87 _ B3.out.box hez3.out hsame.out S3.out.ones ?_)
    have HN:=Hd (show ∃ d' es',d'=d.par (l.take (k+1))∧BoxM w (w3.setRow w.heap.size es3.toArray) es' zero3 87∧ScD.At (w3.setRow w.heap.size es3.toArray) lo (w3.setRow w.heap.size es3.toArray).heap.size (C+(k+1)) d' es' by
     obtain ⟨x,n,c',h0⟩:=S2.out.cell0
     have h4:=S3.out.setRow (B3.out.cell h0) es3.toArray
     exact ⟨d3,es3,HV3.out,B3.out.set es3,h4.mono (by simp) (by omega)⟩)
    go_roundw
    case rel=>exact ⟨k+1,by omega,by go_num,HN⟩
    case measure=>simp [intOf];omega
   case false =>
    rw [hval] at e1
    have HVAL:=Hd hval
    clear hval
    obtain ⟨va,la,ga,vc,lc,gc,hes,hv,hls,hg,k1,k2,k3⟩:=S2.out
    have HG2:=Hd hg
    obtain ⟨ng,hng⟩:∃ n,d1.gs.length=n:=⟨_,rfl⟩
    obtain ⟨nv,hnv⟩:∃ n,d1.vs.length=n:=⟨_,rfl⟩
    obtain ⟨nl,hnl⟩:∃ n,d1.ls.length=n:=⟨_,rfl⟩
    have HNG:=Hd hng
    have HNV1:=Hd hnv
    have HNL:=Hd hnl
    rw [hnv,hnl,hng] at hes
    subst hes
    have K3:=Hd k3
    have e2:=B2.out.cell (j:=2) (v:=.slice ga ng gc) rfl
    clear hv hls hg k1 k2 k3 hng hnv hnl
    go_wp2_with (first
     | (refine wpList_load_mid rfl 115 _ rfl b (p+k * 2) rfl ps _ HR2.out Tryz.underlying115 rfl hlp.out ?_)
     | (refine wpList_store_new rfl 115 _ _ rfl _ ps.toArray rfl rfl hlp2.out h2s.out hpone.out ?_))
    refine (with_gn d1.gs ng HNG.out l[k].name 0 ga gc _ lo lo (w1.alloc (.cells ps.toArray 115)).heap.size (by have:=K3.out;omega) (Nat.le_trans hlo B2.out.low.size) (Nat.le_refl _) HG2.out).mono ?_
    rintro e w3 ⟨a3,c3,rfl,_,_,hn3,hb3⟩
    have B3:=Hd (B2.out.below hb3)
    have N3:=Hd hn3
    have S3:=Hd ((S2.out.keep (Kept.of_below hb3)).mono hb3.size (Nat.le_refl _))
    obtain ⟨m3,hm3⟩:∃ m,(d1.gs++[(l[k].name,(0:Int))]).length=m:=⟨_,rfl⟩
    have HM3:=Hd hm3
    rw [hm3]
    clear hn3 hb3 hm3 e0 e1 e2
    have e2:=B3.out.cell (j:=2) (v:=.slice ga ng gc) rfl
    have fz:=B3.out.frozen 2
    go_wp2_with fail
    have HN:=Hd (show ∃ d' es',d'=d.par (l.take (k+1))∧BoxM w (w3.setCell ⟨w.heap.size,2,none⟩ (.slice a3 m3 c3)) es' zero3 87∧ScD.At (w3.setCell ⟨w.heap.size,2,none⟩ (.slice a3 m3 c3)) lo (w3.setCell ⟨w.heap.size,2,none⟩ (.slice a3 m3 c3)).heap.size (C+(k+1)) d' es' by
     refine ⟨⟨d1.vs,d1.ls,d1.gs++[(l[k].name,0)]⟩,[.slice va nv vc,.slice la nl lc,.slice a3 m3 c3],?_,B3.out.setCell 2 _,?_⟩
     ·rw [HNV.out,← HV1.out]
      unfold ScD.push
      rw [HVAL.out]
      rfl
     ·obtain ⟨va',la',ga',vc',lc',gc',h0,h1,h2,_,h4,h5,h6⟩:=S3.out
      simp only [List.cons.injEq,Value.slice.injEq,and_true] at h0
      obtain ⟨⟨rfl,_,rfl⟩,⟨rfl,_,rfl⟩,_⟩:=h0
      have hz:=B3.out.cell (j:=0) (v:=.slice va nv vc) rfl
      refine ⟨va,la,a3,vc,lc,c3,by rw [HNV1.out,HNL.out,HM3.out],(h1.setCell hz 2 _).mono (by simp),(h2.setCell hz 2 _).mono (by simp),(N3.out.setCell hz 2 _).mono (by simp),by show d1.vs.length≤_;omega,by show d1.ls.length≤_;omega,?_⟩
      rw [List.length_append]
      show d1.gs.length+1≤C+(k+1)
      omega)
    go_roundw
    case rel=>exact ⟨k+1,by omega,by go_num,HN⟩
    case measure=>simp [intOf];omega
  ·obtain rfl:k=l.length:=by omega
   have hesz2:=Hd (show (Tryz.prog.info? 87).map (·.size)=some es.toArray.size by rw [List.size_toArray];exact hesz.out)
   have hsame:=Hd (show zero3.toArray.size=es.toArray.size by rw [List.size_toArray,List.size_toArray,S1.out.len];rfl)
   go_wp2_with (first
    | (refine wpList_load_mid rfl 87 _ rfl w.heap.size 0 rfl es _ B1.out.range Tryz.underlying87 rfl hesz.out ?_)
    | (refine wpList_store_row rfl 87 _ _ rfl (w.heap.size+1) es.toArray rfl rfl 87 _ B1.out.out hesz2.out hsame.out S1.out.ones ?_))
   have HOUT:=setRow_heap w1 (w.heap.size+1) _ es.toArray _ _ B1.out.out
   refine bodyPost_ret (results_cell_row rfl _ _ (w.heap.size+1) 87 _ (0,0) _ rfl HOUT Tryz.underlying87 rfl hesz2.out) rfl ?_
   have h4:=S1.out.setRow (q:=w.heap.size+1) (x:=none) (n:=0) (c:=0) (by rw [cell_of_row w1 (w.heap.size+1) 0 _ _ _ B1.out.out];rfl) es.toArray
   have hv:=HV1.out
   rw [List.take_length] at hv
   exact ⟨d1,es,hv,rfl,h4.mono (by simp) (Nat.le_refl _),below_setRow B1.out.low (by omega) _⟩
end Go.Proofs.YticpebgjbfanpaaGreatDoor

/- The reference's scope of an argument (datakitref38.within). -/
namespace Go.Proofs.YticpebgjbfanpaaGreatDoor
open Go.RowKit
structure BoxW (w u:World) (xs cs zs:List Value) (t:TypeId):Prop where
 row:CellsAt u w.heap.size 0 xs
 sc:CellsAt u (w.heap.size+1) 0 cs
 out:u.heap[w.heap.size+2]?=some (.cells zs.toArray t (0,0))
 low:Below w.heap.size w u
 size:w.heap.size+3≤u.heap.size
theorem BoxW.start (w:World) (xs cs zs:List Value) (tx t:TypeId):BoxW w (((w.alloc (.cells xs.toArray tx)).alloc (.cells cs.toArray t)).alloc (.cells zs.toArray t)) xs cs zs t:=by
 have s1:(w.alloc (.cells xs.toArray tx)).heap.size=w.heap.size+1:=World.size_alloc _ _
 have s2:((w.alloc (.cells xs.toArray tx)).alloc (.cells cs.toArray t)).heap.size=w.heap.size+2:=by rw [World.size_alloc,s1]
 refine ⟨?_,?_,?_,belowThen (belowThen (belowBox w _) (belowBox _ _)) (belowBox _ _),by rw [World.size_alloc,s2];omega⟩
 ·exact ((box_at w xs tx).then (belowBox _ _) (by rw [s1];omega)).then (belowBox _ _) (by rw [s2];omega)
 ·have h:=(box_at (w.alloc (.cells xs.toArray tx)) cs t).then (belowBox _ (.cells zs.toArray t)) (by rw [s2,s1];omega)
  rw [s1] at h
  exact h
 ·have h:=heap_alloc_new ((w.alloc (.cells xs.toArray tx)).alloc (.cells cs.toArray t)) (.cells zs.toArray t)
  rw [s2] at h
  exact h
theorem BoxW.below {w u u':World} {xs cs zs:List Value} {t:TypeId} (h:BoxW w u xs cs zs t) (hb:Below u.heap.size u u'):BoxW w u' xs cs zs t :=
 ⟨h.row.then hb (by have:=h.size;omega),h.sc.then hb (by have:=h.size;omega),(hb.block _ (by have:=h.size;omega)).trans h.out,belowThen h.low hb,Nat.le_trans h.size hb.size⟩
theorem innV_yes {op:Int} {nm:ByteArray} {i:Nat} (h:(op=22∧i=1)∨(op=19∧i=2)∨(op=20∧2≤i)):innV op nm i=[nm]:=by unfold innV;rw [if_pos h]
theorem innV_no {op:Int} {nm:ByteArray} {i:Nat} (h:¬ ((op=22∧i=1)∨(op=19∧i=2)∨(op=20∧2≤i))):innV op nm i=[]:=by unfold innV;rw [if_neg h]
set_option maxRecDepth 100000 in
set_option maxHeartbeats 6400000 in
theorem within_r (x:ExprD) (xs:List Value) (i:Nat) (d:ScD) (cs:List Value) (w:World) (lo B C N:Nat) (hC:C≤536870912) (hN:N≤268435456) (hi:i≤N) (hB:B≤w.heap.size) (hlo:lo≤w.heap.size) (h:ScD.At w lo B C d cs) (hx:ExprD.At w B N x xs) :
 Calls Tryz.prog 66 #[.agg xs.toArray,.int .i64 i,.agg cs.toArray] w (ScW lo (C+N+1) (d.wit x i) w):=by
 obtain ⟨aa,fa,ac,fc,vs,hh⟩:=hx.has
 have c0:=hh.op
 have c1:=hh.name
 have c16:=hh.funcs
 have hfl:x.funcs.length≤N:=hh.own.2.2.2
 have HU:=Hd hh.atFuncs
 have HS:=Hd (h.mono (B':=w.heap.size) (K':=C) hB (Nat.le_refl _))
 have hlen:=h.len
 have hsz:=Hd (show (Tryz.prog.info? 96).map (·.size)=some cs.length by rw [hlen];kernel_rfl)
 have hsz2:=Hd (show (Tryz.prog.info? 96).map (·.size)=some cs.toArray.size by rw [List.size_toArray,hlen];kernel_rfl)
 have hsame0:=Hd (show zero3.toArray.size=cs.toArray.size by rw [List.size_toArray,List.size_toArray,hlen];rfl)
 have B0:=Hd (BoxW.start w xs cs zero3 34 96)
 clear hh hx h hlen
 have hcase:(x.op=22∧i=1)∨(x.op=19∧i=2)∨(x.op=20∧2≤i)∨(x.op=26)∨(x.op=23)∨(x.op=22∧i≠1)∨(x.op=19∧i≠2)∨(x.op=20∧i<2)∨(x.op≠22∧x.op≠19∧x.op≠20∧x.op≠26∧x.op≠23):=by omega
 have hzc:=Hd (show ∀ u:World,u.heap[w.heap.size+2]?=some (.cells zero3.toArray 96 (0,0))→u.cell? ⟨w.heap.size+2,0,none⟩=some (.slice none 0 0) from fun u hu=>by rw [cell_of_row u (w.heap.size+2) 0 _ _ _ hu];rfl)
 have hzs:=Hd (show ∀ (u:World) (K:Nat) (d3:ScD) (es:List Value),ScD.At u lo u.heap.size K d3 es→(Tryz.prog.info? 96).map (·.size)=some es.toArray.size∧zero3.toArray.size=es.toArray.size from fun u K d3 es h=>by
  rw [List.size_toArray,h.len];exact ⟨by kernel_rfl,rfl⟩)
 have HS0:=Hd ((HS.out.keep (Kept.of_below B0.out.low)).mono (B':=w.heap.size+3) (K':=C) (by omega) (Nat.le_refl _))
 rcases hcase with h | h | h | h | h | h | h | h | h
 case inl =>
  obtain  ⟨ho,rfl⟩:=h
  have HD:=Hd (d.wit_no (x:=x) (i:=1) (show x.op≠23 by omega))
  rw [ho] at HD
  have HV:=Hd (innV_yes (nm:=x.name) (.inl ⟨ho,rfl⟩))
  rw [ho] at c0
  rw [ho] at HV
  clear ho
  have e0:=B0.out.row.get0 c0
  have e1:=B0.out.row.get0 c1
  go_enter Tryz.func66,Tryz.ntmps66
  go_wp2_with (refine wpList_load_mid rfl 96 _ rfl (w.heap.size+1) 0 rfl cs _ B0.out.sc.range Tryz.underlying96 rfl hsz.out ?_)
  refine ((variable_r d x.name cs _ lo w.heap.size C (by omega) (by have:=B0.out.size;omega) (by have:=B0.out.size;omega) (HS.out.keep (Kept.of_below B0.out.low))).mono fun e w' h=>h.v (C':=C+N+1) (by omega)).mono ?_
  rintro e w3 ⟨d3,es3,hv3,rfl,hs3,hb3⟩
  have B3:=Hd (B0.out.below hb3)
  have S3:=Hd hs3
  have HV3:=Hd hv3
  have HZ3:=Hd (hzs.out _ _ _ _ hs3)
  clear hs3 hb3 hv3
  go_wp2_with (refine wpList_store_row rfl 96 _ _ rfl (w.heap.size+1+1) es3.toArray rfl rfl 96 _ B3.out.out HZ3.out.1 HZ3.out.2 S3.out.ones ?_)
  have HOUT:=setRow_heap w3 (w.heap.size+2) _ es3.toArray _ _ B3.out.out
  refine bodyPost_ret (results_cell_row rfl _ _ (w.heap.size+1+1) 96 _ (0,0) _ rfl HOUT Tryz.underlying96 rfl HZ3.out.1) rfl ?_
  have h4:=S3.out.setRow (hzc.out _ B3.out.out) es3.toArray
  exact ⟨d3,es3,by rw [HV3.out,HD.out];simp [ScD.inn,HV.out,innL],rfl,h4.mono (by simp) (by omega),below_setRow B3.out.low (by omega) _⟩
 case inr.inl =>
  obtain  ⟨ho,rfl⟩:=h
  have HD:=Hd (d.wit_no (x:=x) (i:=2) (show x.op≠23 by omega))
  rw [ho] at HD
  have HV:=Hd (innV_yes (nm:=x.name) (.inr (.inl ⟨ho,rfl⟩)))
  rw [ho] at c0
  rw [ho] at HV
  clear ho
  have e0:=B0.out.row.get0 c0
  have e1:=B0.out.row.get0 c1
  go_enter Tryz.func66,Tryz.ntmps66
  go_wp2_with (refine wpList_load_mid rfl 96 _ rfl (w.heap.size+1) 0 rfl cs _ B0.out.sc.range Tryz.underlying96 rfl hsz.out ?_)
  refine ((variable_r d x.name cs _ lo w.heap.size C (by omega) (by have:=B0.out.size;omega) (by have:=B0.out.size;omega) (HS.out.keep (Kept.of_below B0.out.low))).mono fun e w' h=>h.v (C':=C+N+1) (by omega)).mono ?_
  rintro e w3 ⟨d3,es3,hv3,rfl,hs3,hb3⟩
  have B3:=Hd (B0.out.below hb3)
  have S3:=Hd hs3
  have HV3:=Hd hv3
  have HZ3:=Hd (hzs.out _ _ _ _ hs3)
  clear hs3 hb3 hv3
  go_wp2_with (refine wpList_store_row rfl 96 _ _ rfl (w.heap.size+1+1) es3.toArray rfl rfl 96 _ B3.out.out HZ3.out.1 HZ3.out.2 S3.out.ones ?_)
  have HOUT:=setRow_heap w3 (w.heap.size+2) _ es3.toArray _ _ B3.out.out
  refine bodyPost_ret (results_cell_row rfl _ _ (w.heap.size+1+1) 96 _ (0,0) _ rfl HOUT Tryz.underlying96 rfl HZ3.out.1) rfl ?_
  have h4:=S3.out.setRow (hzc.out _ B3.out.out) es3.toArray
  exact ⟨d3,es3,by rw [HV3.out,HD.out];simp [ScD.inn,HV.out,innL],rfl,h4.mono (by simp) (by omega),below_setRow B3.out.low (by omega) _⟩
 case inr.inr.inl =>
  obtain ⟨ho,h2⟩:=h
  have HD:=Hd (d.wit_no (x:=x) (i:=i) (show x.op≠23 by omega))
  rw [ho] at HD
  have HV:=Hd (innV_yes (nm:=x.name) (.inr (.inr ⟨ho,h2⟩)))
  rw [ho] at c0
  rw [ho] at HV
  clear ho
  have h2':(2:Int)≤(i:Int):=by omega
  have e0:=B0.out.row.get0 c0
  have e1:=B0.out.row.get0 c1
  go_enter Tryz.func66,Tryz.ntmps66
  go_wp2_with (refine wpList_load_mid rfl 96 _ rfl (w.heap.size+1) 0 rfl cs _ B0.out.sc.range Tryz.underlying96 rfl hsz.out ?_)
  refine ((variable_r d x.name cs _ lo w.heap.size C (by omega) (by have:=B0.out.size;omega) (by have:=B0.out.size;omega) (HS.out.keep (Kept.of_below B0.out.low))).mono fun e w' h=>h.v (C':=C+N+1) (by omega)).mono ?_
  rintro e w3 ⟨d3,es3,hv3,rfl,hs3,hb3⟩
  have B3:=Hd (B0.out.below hb3)
  have S3:=Hd hs3
  have HV3:=Hd hv3
  have HZ3:=Hd (hzs.out _ _ _ _ hs3)
  clear hs3 hb3 hv3
  go_wp2_with (refine wpList_store_row rfl 96 _ _ rfl (w.heap.size+1+1) es3.toArray rfl rfl 96 _ B3.out.out HZ3.out.1 HZ3.out.2 S3.out.ones ?_)
  have HOUT:=setRow_heap w3 (w.heap.size+2) _ es3.toArray _ _ B3.out.out
  refine bodyPost_ret (results_cell_row rfl _ _ (w.heap.size+1+1) 96 _ (0,0) _ rfl HOUT Tryz.underlying96 rfl HZ3.out.1) rfl ?_
  have h4:=S3.out.setRow (hzc.out _ B3.out.out) es3.toArray
  exact ⟨d3,es3,by rw [HV3.out,HD.out];simp [ScD.inn,HV.out,innL],rfl,h4.mono (by simp) (by omega),below_setRow B3.out.low (by omega) _⟩
 case inr.inr.inr.inl =>
  have ho:x.op=26:=h
  clear h
  have HD:=Hd (d.wit_no (x:=x) (i:=i) (show x.op≠23 by omega))
  rw [ho] at HD
  have HV:=Hd (innV_no (op:=x.op) (nm:=x.name) (i:=i) (by omega))
  rw [ho] at c0
  rw [ho] at HV
  clear ho
  have e0:=B0.out.row.get0 c0
  have e1:=B0.out.row.get0 c1
  go_enter Tryz.func66,Tryz.ntmps66
  go_wp2_with (refine wpList_load_mid rfl 96 _ rfl (w.heap.size+1) 0 rfl cs _ B0.out.sc.range Tryz.underlying96 rfl hsz.out ?_)
  refine ((label_r d x.name cs _ lo w.heap.size C (by omega) (by have:=B0.out.size;omega) (by have:=B0.out.size;omega) (HS.out.keep (Kept.of_below B0.out.low))).mono fun e w' h=>h.v (C':=C+N+1) (by omega)).mono ?_
  rintro e w3 ⟨d3,es3,hv3,rfl,hs3,hb3⟩
  have B3:=Hd (B0.out.below hb3)
  have S3:=Hd hs3
  have HV3:=Hd hv3
  have HZ3:=Hd (hzs.out _ _ _ _ hs3)
  clear hs3 hb3 hv3
  go_wp2_with (refine wpList_store_row rfl 96 _ _ rfl (w.heap.size+1+1) es3.toArray rfl rfl 96 _ B3.out.out HZ3.out.1 HZ3.out.2 S3.out.ones ?_)
  have HOUT:=setRow_heap w3 (w.heap.size+2) _ es3.toArray _ _ B3.out.out
  refine bodyPost_ret (results_cell_row rfl _ _ (w.heap.size+1+1) 96 _ (0,0) _ rfl HOUT Tryz.underlying96 rfl HZ3.out.1) rfl ?_
  have h4:=S3.out.setRow (hzc.out _ B3.out.out) es3.toArray
  exact ⟨d3,es3,by rw [HV3.out,HD.out];simp [ScD.inn,HV.out,innL],rfl,h4.mono (by simp) (by omega),below_setRow B3.out.low (by omega) _⟩
 case inr.inr.inr.inr.inl =>
  have ho:x.op=23:=h
  clear h
  have HD:=Hd (d.wit_def (i:=i) ho)
  have HV:=Hd (innV_no (op:=x.op) (nm:=x.name) (i:=i) (by omega))
  rw [ho] at c0
  rw [ho] at HV
  clear ho
  have e0:=B0.out.row.get0 c0
  have e1:=B0.out.row.get0 c1
  have e16:=B0.out.row.get0 c16
  go_enter Tryz.func66,Tryz.ntmps66
  go_wp2_with (refine wpList_load_mid rfl 96 _ rfl (w.heap.size+1) 0 rfl cs _ B0.out.sc.range Tryz.underlying96 rfl hsz.out ?_)
  refine ((functions_r x.funcs fa fc d cs _ lo w.heap.size C N hC (by omega) hfl (by have:=B0.out.size;omega) (by have:=B0.out.size;omega) (HS.out.keep (Kept.of_below B0.out.low)) (FuncsAt.mono hB _ (FuncsAt.below (B0.out.low.mono hB) _ HU.out))).mono fun e w' h=>h.v (C':=C+N+1) (by omega)).mono ?_
  rintro e w3 ⟨d3,es3,hv3,rfl,hs3,hb3⟩
  have B3:=Hd (B0.out.below hb3)
  have S3:=Hd hs3
  have HV3:=Hd hv3
  have HZ3:=Hd (hzs.out _ _ _ _ hs3)
  clear hs3 hb3 hv3
  go_wp2_with (refine wpList_store_row rfl 96 _ _ rfl (w.heap.size+1+1) es3.toArray rfl rfl 96 _ B3.out.out HZ3.out.1 HZ3.out.2 S3.out.ones ?_)
  have HOUT:=setRow_heap w3 (w.heap.size+2) _ es3.toArray _ _ B3.out.out
  refine bodyPost_ret (results_cell_row rfl _ _ (w.heap.size+1+1) 96 _ (0,0) _ rfl HOUT Tryz.underlying96 rfl HZ3.out.1) rfl ?_
  have h4:=S3.out.setRow (hzc.out _ B3.out.out) es3.toArray
  exact ⟨d3,es3,by rw [HV3.out,HD.out];rfl,rfl,h4.mono (by simp) (by omega),below_setRow B3.out.low (by omega) _⟩
 case inr.inr.inr.inr.inr.inl =>
  obtain ⟨ho,h2⟩:=h
  have HD:=Hd (d.wit_no (x:=x) (i:=i) (show x.op≠23 by omega))
  rw [ho] at HD
  have HV:=Hd (innV_no (op:=x.op) (nm:=x.name) (i:=i) (by omega))
  rw [ho] at c0
  rw [ho] at HV
  clear ho
  have h2':((i:Int)==1)=false:=by simp;omega
  clear h2
  have e0:=B0.out.row.get0 c0
  have e1:=B0.out.row.get0 c1
  go_enter Tryz.func66,Tryz.ntmps66
  go_wp2_with (first
   | (refine wpList_load_mid rfl 96 _ rfl (w.heap.size+1) 0 rfl cs _ B0.out.sc.range Tryz.underlying96 rfl hsz.out ?_)
   | (refine wpList_store_row rfl 96 _ _ rfl (w.heap.size+1+1) cs.toArray rfl rfl 96 _ B0.out.out hsz2.out hsame0.out HS.out.ones ?_))
  have HOUT:=setRow_heap _ (w.heap.size+2) _ cs.toArray _ _ B0.out.out
  refine bodyPost_ret (results_cell_row rfl _ _ (w.heap.size+1+1) 96 _ (0,0) _ rfl HOUT Tryz.underlying96 rfl hsz2.out) rfl ?_
  have h4:=HS0.out.setRow (hzc.out _ B0.out.out) cs.toArray
  exact ⟨d,cs,by rw [HD.out];simp [ScD.inn,HV.out,innL],rfl,h4.mono (by simp) (by omega),below_setRow B0.out.low (by omega) _⟩
 case inr.inr.inr.inr.inr.inr.inl =>
  obtain ⟨ho,h2⟩:=h
  have HD:=Hd (d.wit_no (x:=x) (i:=i) (show x.op≠23 by omega))
  rw [ho] at HD
  have HV:=Hd (innV_no (op:=x.op) (nm:=x.name) (i:=i) (by omega))
  rw [ho] at c0
  rw [ho] at HV
  clear ho
  have h2':((i:Int)==2)=false:=by simp;omega
  clear h2
  have e0:=B0.out.row.get0 c0
  have e1:=B0.out.row.get0 c1
  go_enter Tryz.func66,Tryz.ntmps66
  go_wp2_with (first
   | (refine wpList_load_mid rfl 96 _ rfl (w.heap.size+1) 0 rfl cs _ B0.out.sc.range Tryz.underlying96 rfl hsz.out ?_)
   | (refine wpList_store_row rfl 96 _ _ rfl (w.heap.size+1+1) cs.toArray rfl rfl 96 _ B0.out.out hsz2.out hsame0.out HS.out.ones ?_))
  have HOUT:=setRow_heap _ (w.heap.size+2) _ cs.toArray _ _ B0.out.out
  refine bodyPost_ret (results_cell_row rfl _ _ (w.heap.size+1+1) 96 _ (0,0) _ rfl HOUT Tryz.underlying96 rfl hsz2.out) rfl ?_
  have h4:=HS0.out.setRow (hzc.out _ B0.out.out) cs.toArray
  exact ⟨d,cs,by rw [HD.out];simp [ScD.inn,HV.out,innL],rfl,h4.mono (by simp) (by omega),below_setRow B0.out.low (by omega) _⟩
 case inr.inr.inr.inr.inr.inr.inr.inl =>
  obtain ⟨ho,h2⟩:=h
  have HD:=Hd (d.wit_no (x:=x) (i:=i) (show x.op≠23 by omega))
  rw [ho] at HD
  have HV:=Hd (innV_no (op:=x.op) (nm:=x.name) (i:=i) (by omega))
  rw [ho] at c0
  rw [ho] at HV
  clear ho
  have h2':¬ (2:Int)≤(i:Int):=by omega
  clear h2
  have e0:=B0.out.row.get0 c0
  have e1:=B0.out.row.get0 c1
  go_enter Tryz.func66,Tryz.ntmps66
  go_wp2_with (first
   | (refine wpList_load_mid rfl 96 _ rfl (w.heap.size+1) 0 rfl cs _ B0.out.sc.range Tryz.underlying96 rfl hsz.out ?_)
   | (refine wpList_store_row rfl 96 _ _ rfl (w.heap.size+1+1) cs.toArray rfl rfl 96 _ B0.out.out hsz2.out hsame0.out HS.out.ones ?_))
  have HOUT:=setRow_heap _ (w.heap.size+2) _ cs.toArray _ _ B0.out.out
  refine bodyPost_ret (results_cell_row rfl _ _ (w.heap.size+1+1) 96 _ (0,0) _ rfl HOUT Tryz.underlying96 rfl hsz2.out) rfl ?_
  have h4:=HS0.out.setRow (hzc.out _ B0.out.out) cs.toArray
  exact ⟨d,cs,by rw [HD.out];simp [ScD.inn,HV.out,innL],rfl,h4.mono (by simp) (by omega),below_setRow B0.out.low (by omega) _⟩
 case inr.inr.inr.inr.inr.inr.inr.inr =>
  obtain ⟨h22,h19,h20,h26,h23⟩:=h
  have HV:=Hd (innV_no (op:=x.op) (nm:=x.name) (i:=i) (by omega))
  have q22:(x.op==22)=false:=by simpa using h22
  have q19:(x.op==19)=false:=by simpa using h19
  have q20:(x.op==20)=false:=by simpa using h20
  have q26:(x.op==26)=false:=by simpa using h26
  have q23:(x.op==23)=false:=by simpa using h23
  have HL:=Hd (innL_no (nm:=x.name) h26)
  have HD:=Hd (d.wit_no (x:=x) (i:=i) h23)
  clear h22 h19 h20 h26 h23
  have e0:=B0.out.row.get0 c0
  have e1:=B0.out.row.get0 c1
  go_enter Tryz.func66,Tryz.ntmps66
  go_wp2_with (first
   | (refine wpList_load_mid rfl 96 _ rfl (w.heap.size+1) 0 rfl cs _ B0.out.sc.range Tryz.underlying96 rfl hsz.out ?_)
   | (refine wpList_store_row rfl 96 _ _ rfl (w.heap.size+1+1) cs.toArray rfl rfl 96 _ B0.out.out hsz2.out hsame0.out HS.out.ones ?_))
  have HOUT:=setRow_heap _ (w.heap.size+2) _ cs.toArray _ _ B0.out.out
  refine bodyPost_ret (results_cell_row rfl _ _ (w.heap.size+1+1) 96 _ (0,0) _ rfl HOUT Tryz.underlying96 rfl hsz2.out) rfl ?_
  have h4:=HS0.out.setRow (hzc.out _ B0.out.out) cs.toArray
  exact ⟨d,cs,by rw [HD.out];simp [ScD.inn,HV.out,HL.out],rfl,h4.mono (by simp) (by omega),below_setRow B0.out.low (by omega) _⟩
end Go.Proofs.YticpebgjbfanpaaGreatDoor

/- The program's scope of an argument (module.inner). -/
namespace Go.Proofs.YticpebgjbfanpaaGreatDoor
open Go.RowKit
structure BoxI (w u:World) (xs cs zs:List Value) (t:TypeId):Prop where
 row:CellsAt u w.heap.size 0 xs
 box:u.heap[w.heap.size+1]?=some (.cells cs.toArray t (0,0))
 out:u.heap[w.heap.size+2]?=some (.cells zs.toArray t (0,0))
 low:Below w.heap.size w u
 size:w.heap.size+3≤u.heap.size
theorem BoxI.start (w:World) (xs cs zs:List Value) (tx t:TypeId):BoxI w (((w.alloc (.cells xs.toArray tx)).alloc (.cells cs.toArray t)).alloc (.cells zs.toArray t)) xs cs zs t:=by
 have h:=BoxW.start w xs cs zs tx t
 have s1:(w.alloc (.cells xs.toArray tx)).heap.size=w.heap.size+1:=World.size_alloc _ _
 have s2:((w.alloc (.cells xs.toArray tx)).alloc (.cells cs.toArray t)).heap.size=w.heap.size+2:=by rw [World.size_alloc,s1]
 refine ⟨h.row,?_,h.out,h.low,h.size⟩
 have h2:=heap_alloc_new (w.alloc (.cells xs.toArray tx)) (.cells cs.toArray t)
 rw [s1] at h2
 exact (heap_alloc_old _ _ (by rw [s2];omega)).trans h2
theorem BoxI.below {w u u':World} {xs cs zs:List Value} {t:TypeId} (h:BoxI w u xs cs zs t) (hb:Below u.heap.size u u'):BoxI w u' xs cs zs t :=
 ⟨h.row.then hb (by have:=h.size;omega),(hb.block _ (by have:=h.size;omega)).trans h.box,(hb.block _ (by have:=h.size;omega)).trans h.out,belowThen h.low hb,Nat.le_trans h.size hb.size⟩
theorem BoxI.cell {w u:World} {xs cs zs:List Value} {t:TypeId} (h:BoxI w u xs cs zs t) {j:Nat} {v:Value} (hv:cs[j]?=some v):u.cell? ⟨w.heap.size+1,j,none⟩=some v:=by
 rw [cell_of_row u (w.heap.size+1) j _ _ _ h.box];simpa using hv
theorem BoxI.frozen {w u:World} {xs cs zs:List Value} {t:TypeId} (h:BoxI w u xs cs zs t) (j:Nat):u.frozen? ⟨w.heap.size+1,j,none⟩=false:=frozen_of_row u (w.heap.size+1) j _ _ h.box
theorem BoxI.range {w u:World} {xs cs zs:List Value} {t:TypeId} (h:BoxI w u xs cs zs t):u.rangeAt (w.heap.size+1) 0 cs:=fun j v hv=>by rw [Nat.zero_add];exact h.cell hv
theorem BoxI.setCell {w u:World} {xs cs zs:List Value} {t:TypeId} (h:BoxI w u xs cs zs t) (j:Nat) (v:Value):BoxI w (u.setCell ⟨w.heap.size+1,j,none⟩ v) xs (cs.set j v) zs t:=by
 refine ⟨fun k hk=>?_,?_,(heap_setCell_other _ _ _ _ (by simp)).trans h.out,h.low.setCell (by show w.heap.size≤w.heap.size+1;omega) v,by have:=h.size;simpa using this⟩
 ·rw [← h.row k hk]
  simp only [World.cell?]
  rw [heap_setCell_other _ _ _ _ (by simp)]
 ·rw [heap_setCell_same u (w.heap.size+1) j _ _ _ h.box]
  simp
set_option maxRecDepth 100000 in
set_option maxHeartbeats 6400000 in
theorem inner_p (x:ExprD) (xs:List Value) (i:Nat) (d:ScD) (cs:List Value) (w:World) (lo B C N:Nat) (hC:C≤268435456) (hi:i≤N) (h19:x.op=19→i≤2) (hB:B≤w.heap.size) (hlo:lo≤w.heap.size) (h:ScD.At w lo B C d cs) (hx:ExprD.At w B N x xs) :
 Calls Tryz.prog 61 #[.agg xs.toArray,.int .i64 i,.agg cs.toArray] w (ScW lo (C+1) (d.inn x.op x.name i) w):=by
 obtain ⟨aa,fa,ac,fc,vs,hh⟩:=hx.has
 have c0:=hh.op
 have c1:=hh.name
 have HS:=Hd (h.mono (B':=w.heap.size) (K':=C) hB (Nat.le_refl _))
 have hlen:=h.len
 have hsz:=Hd (show (Tryz.prog.info? 87).map (·.size)=some cs.length by rw [hlen];kernel_rfl)
 have hsz2:=Hd (show (Tryz.prog.info? 87).map (·.size)=some cs.toArray.size by rw [List.size_toArray,hlen];kernel_rfl)
 have hsame0:=Hd (show zero3.toArray.size=cs.toArray.size by rw [List.size_toArray,List.size_toArray,hlen];rfl)
 have B0:=Hd (BoxI.start w xs cs zero3 34 87)
 clear hh hx h hlen
 have hcase:(x.op=22∧i=1)∨(x.op=19∧i=2)∨(x.op=20∧2≤i)∨(x.op=26)∨(x.op=22∧i≠1)∨(x.op=19∧i<2)∨(x.op=20∧i<2)∨(x.op≠22∧x.op≠19∧x.op≠20∧x.op≠26):=by
  by_cases h:x.op=19
  ·have:=h19 h;omega
  ·omega
 clear h19
 have hzc:=Hd (show ∀ u:World,u.heap[w.heap.size+2]?=some (.cells zero3.toArray 87 (0,0))→u.cell? ⟨w.heap.size+2,0,none⟩=some (.slice none 0 0) from fun u hu=>by rw [cell_of_row u (w.heap.size+2) 0 _ _ _ hu];rfl)
 have hzs:=Hd (show ∀ (u:World) (K:Nat) (d3:ScD) (es:List Value),ScD.At u lo u.heap.size K d3 es→(Tryz.prog.info? 87).map (·.size)=some es.toArray.size∧zero3.toArray.size=es.toArray.size from fun u K d3 es h=>by
  rw [List.size_toArray,h.len];exact ⟨by kernel_rfl,rfl⟩)
 have HS0:=Hd ((HS.out.keep (Kept.of_below B0.out.low)).mono (B':=w.heap.size+3) (K':=C) (by omega) (Nat.le_refl _))
 rcases hcase with h | h | h | h | h | h | h | h
 case inl =>
  obtain ⟨ho,rfl⟩:=h
  have HV:=Hd (innV_yes (nm:=x.name) (.inl ⟨ho,rfl⟩))
  rw [ho] at c0 ⊢
  rw [ho] at HV
  clear ho
  have e0:=B0.out.row.get0 c0
  have e1:=B0.out.row.get0 c1
  go_enter Tryz.func61,Tryz.ntmps61
  go_wp2_with (refine wpList_load_mid rfl 87 _ rfl (w.heap.size+1) 0 rfl cs _ B0.out.range Tryz.underlying87 rfl hsz.out ?_)
  refine (variable_p d x.name cs _ lo w.heap.size C (by omega) (by have:=B0.out.size;omega) (by have:=B0.out.size;omega) (HS.out.keep (Kept.of_below B0.out.low))).mono ?_
  rintro e w3 ⟨d3,es3,hv3,rfl,hs3,hb3⟩
  have B3:=Hd (B0.out.below hb3)
  have S3:=Hd hs3
  have HV3:=Hd hv3
  have HZ3:=Hd (hzs.out _ _ _ _ hs3)
  clear hs3 hb3 hv3
  go_wp2_with (refine wpList_store_row rfl 87 _ _ rfl (w.heap.size+1+1) es3.toArray rfl rfl 87 _ B3.out.out HZ3.out.1 HZ3.out.2 S3.out.ones ?_)
  have HOUT:=setRow_heap w3 (w.heap.size+2) _ es3.toArray _ _ B3.out.out
  refine bodyPost_ret (results_cell_row rfl _ _ (w.heap.size+1+1) 87 _ (0,0) _ rfl HOUT Tryz.underlying87 rfl HZ3.out.1) rfl ?_
  have h4:=S3.out.setRow (hzc.out _ B3.out.out) es3.toArray
  exact ⟨d3,es3,by rw [HV3.out];simp [ScD.inn,HV.out,innL],rfl,h4.mono (by simp) (by omega),below_setRow B3.out.low (by omega) _⟩
 case inr.inl =>
  obtain ⟨ho,rfl⟩:=h
  have HV:=Hd (innV_yes (nm:=x.name) (.inr (.inl ⟨ho,rfl⟩)))
  rw [ho] at c0 ⊢
  rw [ho] at HV
  clear ho
  have e0:=B0.out.row.get0 c0
  have e1:=B0.out.row.get0 c1
  go_enter Tryz.func61,Tryz.ntmps61
  go_wp2_with (refine wpList_load_mid rfl 87 _ rfl (w.heap.size+1) 0 rfl cs _ B0.out.range Tryz.underlying87 rfl hsz.out ?_)
  refine (variable_p d x.name cs _ lo w.heap.size C (by omega) (by have:=B0.out.size;omega) (by have:=B0.out.size;omega) (HS.out.keep (Kept.of_below B0.out.low))).mono ?_
  rintro e w3 ⟨d3,es3,hv3,rfl,hs3,hb3⟩
  have B3:=Hd (B0.out.below hb3)
  have S3:=Hd hs3
  have HV3:=Hd hv3
  have HZ3:=Hd (hzs.out _ _ _ _ hs3)
  clear hs3 hb3 hv3
  go_wp2_with (refine wpList_store_row rfl 87 _ _ rfl (w.heap.size+1+1) es3.toArray rfl rfl 87 _ B3.out.out HZ3.out.1 HZ3.out.2 S3.out.ones ?_)
  have HOUT:=setRow_heap w3 (w.heap.size+2) _ es3.toArray _ _ B3.out.out
  refine bodyPost_ret (results_cell_row rfl _ _ (w.heap.size+1+1) 87 _ (0,0) _ rfl HOUT Tryz.underlying87 rfl HZ3.out.1) rfl ?_
  have h4:=S3.out.setRow (hzc.out _ B3.out.out) es3.toArray
  exact ⟨d3,es3,by rw [HV3.out];simp [ScD.inn,HV.out,innL],rfl,h4.mono (by simp) (by omega),below_setRow B3.out.low (by omega) _⟩
 case inr.inr.inl =>
  obtain ⟨ho,h2⟩:=h
  have HV:=Hd (innV_yes (nm:=x.name) (.inr (.inr ⟨ho,h2⟩)))
  rw [ho] at c0 ⊢
  rw [ho] at HV
  clear ho
  have h2':(2:Int)≤(i:Int):=by omega
  have e0:=B0.out.row.get0 c0
  have e1:=B0.out.row.get0 c1
  go_enter Tryz.func61,Tryz.ntmps61
  go_wp2_with (refine wpList_load_mid rfl 87 _ rfl (w.heap.size+1) 0 rfl cs _ B0.out.range Tryz.underlying87 rfl hsz.out ?_)
  refine (variable_p d x.name cs _ lo w.heap.size C (by omega) (by have:=B0.out.size;omega) (by have:=B0.out.size;omega) (HS.out.keep (Kept.of_below B0.out.low))).mono ?_
  rintro e w3 ⟨d3,es3,hv3,rfl,hs3,hb3⟩
  have B3:=Hd (B0.out.below hb3)
  have S3:=Hd hs3
  have HV3:=Hd hv3
  have HZ3:=Hd (hzs.out _ _ _ _ hs3)
  clear hs3 hb3 hv3
  go_wp2_with (refine wpList_store_row rfl 87 _ _ rfl (w.heap.size+1+1) es3.toArray rfl rfl 87 _ B3.out.out HZ3.out.1 HZ3.out.2 S3.out.ones ?_)
  have HOUT:=setRow_heap w3 (w.heap.size+2) _ es3.toArray _ _ B3.out.out
  refine bodyPost_ret (results_cell_row rfl _ _ (w.heap.size+1+1) 87 _ (0,0) _ rfl HOUT Tryz.underlying87 rfl HZ3.out.1) rfl ?_
  have h4:=S3.out.setRow (hzc.out _ B3.out.out) es3.toArray
  exact ⟨d3,es3,by rw [HV3.out];simp [ScD.inn,HV.out,innL],rfl,h4.mono (by simp) (by omega),below_setRow B3.out.low (by omega) _⟩
 case inr.inr.inr.inl =>
  have ho:x.op=26:=h
  clear h
  have HV:=Hd (innV_no (op:=x.op) (nm:=x.name) (i:=i) (by omega))
  rw [ho] at c0 ⊢
  rw [ho] at HV
  clear ho
  have e0:=B0.out.row.get0 c0
  have e1:=B0.out.row.get0 c1
  obtain ⟨va,la,ga,vc,lc,gc,rfl,hv,hls,hg,k1,k2,k3⟩:=HS.out
  have HLV:=Hd hv
  have HLL:=Hd hls
  have HLG:=Hd hg
  have K1:=Hd k1
  have K2:=Hd k2
  have K3:=Hd k3
  have e2:=B0.out.cell (j:=1) (v:=.slice la d.ls.length lc) rfl
  clear hv hls hg k1 k2 k3
  go_enter Tryz.func61,Tryz.ntmps61
  go_wp2_with fail
  refine (with_s d.ls x.name la lc _ lo lo w.heap.size (by have:=K2.out;omega) (by have:=B0.out.size;omega) (HLL.out.keep (Kept.of_below B0.out.low))).mono ?_
  rintro e u1 ⟨a1,c1',rfl,_,_,hn1,hb1⟩
  have B1:=Hd (B0.out.below hb1)
  have N1:=Hd hn1
  obtain ⟨m1,hm1⟩:∃ m,(d.ls++[x.name]).length=m:=⟨_,rfl⟩
  have HM1:=Hd hm1
  rw [hm1]
  clear hn1 hb1 hm1 e0 e1 e2
  have z1:=B1.out.cell (j:=1) (v:=.slice la d.ls.length lc) rfl
  have f1:=B1.out.frozen 1
  have B2:=Hd (show BoxI w (u1.setCell ⟨w.heap.size+1,1,none⟩ (.slice a1 m1 c1')) xs [.slice va d.vs.length vc,.slice a1 m1 c1',.slice ga d.gs.length gc] zero3 87 from B1.out.setCell 1 (.slice a1 m1 c1'))
  go_wp2_with (first
   | (refine wpList_load_mid rfl 87 _ rfl (w.heap.size+1) 0 rfl [.slice va d.vs.length vc,.slice a1 m1 c1',.slice ga d.gs.length gc] _ B2.out.range Tryz.underlying87 rfl (by kernel_rfl) ?_)
   | (refine wpList_store_row rfl 87 _ _ rfl (w.heap.size+1+1) #[.slice va d.vs.length vc,.slice a1 m1 c1',.slice ga d.gs.length gc] rfl rfl 87 _ B2.out.out (by kernel_rfl) rfl (one3 ..) ?_))
  have HOUT:=setRow_heap (u1.setCell ⟨w.heap.size+1,1,none⟩ (.slice a1 m1 c1')) (w.heap.size+2) _ #[.slice va d.vs.length vc,.slice a1 m1 c1',.slice ga d.gs.length gc] _ _ B2.out.out
  refine bodyPost_ret (results_cell_row rfl _ _ (w.heap.size+1+1) 87 _ (0,0) _ rfl HOUT Tryz.underlying87 rfl (by kernel_rfl)) rfl ?_
  have hlow:Kept lo w.heap.size w u1:=Kept.of_below B1.out.low
  have hs1:=B1.out.size
  have hz:=B1.out.cell (j:=0) (v:=.slice va d.vs.length vc) rfl
  have A1:ScD.At (u1.setCell ⟨w.heap.size+1,1,none⟩ (.slice a1 m1 c1')) lo u1.heap.size (C+1) ⟨d.vs,d.ls++[x.name],d.gs⟩ [.slice va d.vs.length vc,.slice a1 m1 c1',.slice ga d.gs.length gc]:=by
   refine ⟨va,a1,ga,vc,c1',gc,by rw [HM1.out],((HLV.out.keep hlow).mono (by omega)).setCell hz 1 _,N1.out.setCell hz 1 _,((HLG.out.keep hlow).mono (by omega)).setCell hz 1 _,?_,?_,?_⟩
   ·have h1:=K1.out
    show d.vs.length≤C+1
    omega
   ·have h1:=K2.out
    rw [List.length_append]
    show d.ls.length+1≤C+1
    omega
   ·have h1:=K3.out
    show d.gs.length≤C+1
    omega
  have A2:=A1.setRow (hzc.out _ B2.out.out) #[.slice va d.vs.length vc,.slice a1 m1 c1',.slice ga d.gs.length gc]
  exact ⟨_,[.slice va d.vs.length vc,.slice a1 m1 c1',.slice ga d.gs.length gc],by simp [ScD.inn,HV.out,innL],rfl,A2.mono (by simp) (Nat.le_refl _),below_setRow B2.out.low (by omega) _⟩
 case inr.inr.inr.inr.inl =>
  obtain ⟨ho,h2⟩:=h
  have HV:=Hd (innV_no (op:=x.op) (nm:=x.name) (i:=i) (by omega))
  rw [ho] at c0 ⊢
  rw [ho] at HV
  clear ho
  have h2':((i:Int)==1)=false:=by simp;omega
  clear h2
  have e0:=B0.out.row.get0 c0
  have e1:=B0.out.row.get0 c1
  go_enter Tryz.func61,Tryz.ntmps61
  go_wp2_with (first
   | (refine wpList_load_mid rfl 87 _ rfl (w.heap.size+1) 0 rfl cs _ B0.out.range Tryz.underlying87 rfl hsz.out ?_)
   | (refine wpList_store_row rfl 87 _ _ rfl (w.heap.size+1+1) cs.toArray rfl rfl 87 _ B0.out.out hsz2.out hsame0.out HS.out.ones ?_))
  have HOUT:=setRow_heap _ (w.heap.size+2) _ cs.toArray _ _ B0.out.out
  refine bodyPost_ret (results_cell_row rfl _ _ (w.heap.size+1+1) 87 _ (0,0) _ rfl HOUT Tryz.underlying87 rfl hsz2.out) rfl ?_
  have h4:=HS0.out.setRow (hzc.out _ B0.out.out) cs.toArray
  exact ⟨d,cs,by simp [ScD.inn,HV.out,innL],rfl,h4.mono (by simp) (by omega),below_setRow B0.out.low (by omega) _⟩
 case inr.inr.inr.inr.inr.inl =>
  obtain ⟨ho,h2⟩:=h
  have HV:=Hd (innV_no (op:=x.op) (nm:=x.name) (i:=i) (by omega))
  rw [ho] at c0 ⊢
  rw [ho] at HV
  clear ho
  have h2':¬ (2:Int)≤(i:Int):=by omega
  clear h2
  have e0:=B0.out.row.get0 c0
  have e1:=B0.out.row.get0 c1
  go_enter Tryz.func61,Tryz.ntmps61
  go_wp2_with (first
   | (refine wpList_load_mid rfl 87 _ rfl (w.heap.size+1) 0 rfl cs _ B0.out.range Tryz.underlying87 rfl hsz.out ?_)
   | (refine wpList_store_row rfl 87 _ _ rfl (w.heap.size+1+1) cs.toArray rfl rfl 87 _ B0.out.out hsz2.out hsame0.out HS.out.ones ?_))
  have HOUT:=setRow_heap _ (w.heap.size+2) _ cs.toArray _ _ B0.out.out
  refine bodyPost_ret (results_cell_row rfl _ _ (w.heap.size+1+1) 87 _ (0,0) _ rfl HOUT Tryz.underlying87 rfl hsz2.out) rfl ?_
  have h4:=HS0.out.setRow (hzc.out _ B0.out.out) cs.toArray
  exact ⟨d,cs,by simp [ScD.inn,HV.out,innL],rfl,h4.mono (by simp) (by omega),below_setRow B0.out.low (by omega) _⟩
 case inr.inr.inr.inr.inr.inr.inl =>
  obtain ⟨ho,h2⟩:=h
  have HV:=Hd (innV_no (op:=x.op) (nm:=x.name) (i:=i) (by omega))
  rw [ho] at c0 ⊢
  rw [ho] at HV
  clear ho
  have h2':¬ (2:Int)≤(i:Int):=by omega
  clear h2
  have e0:=B0.out.row.get0 c0
  have e1:=B0.out.row.get0 c1
  go_enter Tryz.func61,Tryz.ntmps61
  go_wp2_with (first
   | (refine wpList_load_mid rfl 87 _ rfl (w.heap.size+1) 0 rfl cs _ B0.out.range Tryz.underlying87 rfl hsz.out ?_)
   | (refine wpList_store_row rfl 87 _ _ rfl (w.heap.size+1+1) cs.toArray rfl rfl 87 _ B0.out.out hsz2.out hsame0.out HS.out.ones ?_))
  have HOUT:=setRow_heap _ (w.heap.size+2) _ cs.toArray _ _ B0.out.out
  refine bodyPost_ret (results_cell_row rfl _ _ (w.heap.size+1+1) 87 _ (0,0) _ rfl HOUT Tryz.underlying87 rfl hsz2.out) rfl ?_
  have h4:=HS0.out.setRow (hzc.out _ B0.out.out) cs.toArray
  exact ⟨d,cs,by simp [ScD.inn,HV.out,innL],rfl,h4.mono (by simp) (by omega),below_setRow B0.out.low (by omega) _⟩
 case inr.inr.inr.inr.inr.inr.inr =>
  obtain ⟨h22,h19,h20,h26⟩:=h
  have HV:=Hd (innV_no (op:=x.op) (nm:=x.name) (i:=i) (by omega))
  have q22:(x.op==22)=false:=by simpa using h22
  have q19:(x.op==19)=false:=by simpa using h19
  have q20:(x.op==20)=false:=by simpa using h20
  have q26:(x.op==26)=false:=by simpa using h26
  have HL:=Hd (innL_no (nm:=x.name) h26)
  clear h22 h19 h20 h26
  have e0:=B0.out.row.get0 c0
  have e1:=B0.out.row.get0 c1
  go_enter Tryz.func61,Tryz.ntmps61
  go_wp2_with (first
   | (refine wpList_load_mid rfl 87 _ rfl (w.heap.size+1) 0 rfl cs _ B0.out.range Tryz.underlying87 rfl hsz.out ?_)
   | (refine wpList_store_row rfl 87 _ _ rfl (w.heap.size+1+1) cs.toArray rfl rfl 87 _ B0.out.out hsz2.out hsame0.out HS.out.ones ?_))
  have HOUT:=setRow_heap _ (w.heap.size+2) _ cs.toArray _ _ B0.out.out
  refine bodyPost_ret (results_cell_row rfl _ _ (w.heap.size+1+1) 87 _ (0,0) _ rfl HOUT Tryz.underlying87 rfl hsz2.out) rfl ?_
  have h4:=HS0.out.setRow (hzc.out _ B0.out.out) cs.toArray
  exact ⟨d,cs,by simp [ScD.inn,HV.out,HL.out],rfl,h4.mono (by simp) (by omega),below_setRow B0.out.low (by omega) _⟩
end Go.Proofs.YticpebgjbfanpaaGreatDoor
