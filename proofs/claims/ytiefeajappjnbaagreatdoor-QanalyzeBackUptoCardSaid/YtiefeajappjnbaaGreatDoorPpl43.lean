/- qanalyze.Plan of a program gives the check's error, or the plan that cy says, or ErrStream (printed by genppl43.py). -/
import Derived.Test.YtiefeajappjnbaaGreatDoorGA
import Derived.Test.YtiefeajappjnbaaGreatDoorHJ
import Derived.Test.YtiefeajappjnbaaGreatDoorHK
namespace Go.Proofs.YtiefeajappjnbaaGreatDoor
open Go.RowKit
theorem Db {A B C:Type} {F G:A→B→C→Prop} {R:Prop} (main:(∀ a b c,F a b c→G a b c)→R) (tail:∀ a b c,F a b c→G a b c):R:=main tail
theorem Da {A B C D E:Type} {F G:A→B→C→D→E→Prop} {R:Prop} (main:(∀ a b c d e,F a b c d e→G a b c d e)→R) (tail:∀ a b c d e,F a b c d e→G a b c d e):R:=main tail
theorem n9 {e:ag} (h:e.op=30∨wfE 47 e) (w:World) (B N:Nat) (cs:List Value) (hN:N≤1048576) (hB:B≤w.heap.size) (hx:ag.At w B N e cs):Calls Tryz.prog 50 #[.agg cs.toArray] w (Ba (cQ (dZ 47 e)) w):=uf 47 (by omega) e h w B N cs hN hB hx
theorem tz {e:ag} (h:e.op=30∨wfE 47 e):eK 1 (kD 47) e:=h.elim (fun h=>tB 1 47 h) (fun h=>yn 47 1 e (by omega) (by omega) h)
def gj (M B N:Nat) (X:Nat→Prop) (w u:World) (e:ag) (cs:List Value):Prop:=cA M X u (fun c=>Below B w c→ag.At c c.heap.size N e cs)
theorem ez {M B N:Nat} {X:Nat→Prop} {w a b u:World} {e:ag} {cs:List Value} (hs:bF a.heap.size none b (fun c=>Below B a c→ag.At c c.heap.size N e cs)) (ha:Below B w a) (hb:a.heap.size≤b.heap.size) (hk:bO a.heap.size none b u) (hM:M≤a.heap.size) (hX:∀ k,X k→k<a.heap.size∨b.heap.size≤k):gj M B N X w u e cs:=by
 have h2:bF a.heap.size none b (fun c=>Below B w c→ag.At c c.heap.size N e cs):=fun c hc hbc=>hs c hc (cm ha hbc (Nat.le_trans hb hc.1))
 exact cA.of h2 hk hM hX
def iW (M B N:Nat) (X:Nat→Prop) (w u:World) (l:List al) (a:Option Addr):Prop:=cA M X u (fun c=>Below B w c→av c c.heap.size N l a)
theorem jP {M B N:Nat} {X:Nat→Prop} {w a b u:World} {l:List al} {ad:Option Addr} (hs:bF a.heap.size none b (fun c=>Below B a c→av c c.heap.size N l ad)) (ha:Below B w a) (hb:a.heap.size≤b.heap.size) (hk:bO a.heap.size none b u) (hM:M≤a.heap.size) (hX:∀ k,X k→k<a.heap.size∨b.heap.size≤k):iW M B N X w u l ad:=by
 have h2:bF a.heap.size none b (fun c=>Below B w c→av c c.heap.size N l ad):=fun c hc hbc=>hs c hc (cm ha hbc (Nat.le_trans hb hc.1))
 exact cA.of h2 hk hM hX
theorem kx:(iE0:List Value).toArray.all (·.oneCell')=true:=by decide +kernel
set_option maxRecDepth 100000 in
set_option maxHeartbeats 6400000 in
theorem zx (l:List al) (x:ag) (fa:Option Addr) (fc:Nat) (ms cs:List Value) (w:World) (B N:Nat) (hN:N≤1048576) (h4:4≤B) (hB:B≤w.heap.size) (hE:Env w) (hT:cI w) (hsl:gY l) (hsx:cc x) (_hln:l.length≤N) (hA:av w B N l fa) (hx:ag.At w B N x ms) (hcs:cs=.slice fa l.length fc::ms) (h0:dP l x≠0):Calls Tryz.prog 18 #[.agg cs.toArray] w (dI N l x w):=by
 have hml:ms.length=17:=hx.len
 have HMS:=Hd (show (cs.drop 1).take 17=ms by rw [hcs];exact List.take_of_length_le (show ms.length≤17 by omega))
 have hlm:=Hd (show (Tryz.prog.info? 34).map (·.size)=some ms.length by rw [hml];exact ay)
 have hlm2:=Hd (show (Tryz.prog.info? 34).map (·.size)=some ms.toArray.size by rw [List.size_toArray,hml];exact ay)
 have hlm3:=Hd (show ai.toArray.size=ms.toArray.size by show 17=_;rw [List.size_toArray,hml])
 have HOM:=Hd (show ms.toArray.all (·.oneCell')=true from Go.all_oneCell_toArray hx.one)
 have HML:=Hd hml
 have hlc:=Hd (show (Tryz.prog.info? 61).map (·.size)=some cs.length by rw [hcs,List.length_cons,hml];exact lg)
 have HC0:=Hd (show cs[0]?=some (.slice fa l.length fc) by rw [hcs];rfl)
 have HCS:=Hd hcs
 have HX:=Hd hx
 have HA:=Hd hA
 have HT:=Hd hT
 have HE:=Hd hE
 have HSL:=Hd hsl
 have HSX:=Hd hsx
 have RG0:=(aq.new w 61 cs).alloc (.cells zP0 58)
 have RZ0:=aq.new (w.alloc (.cells cs.toArray 61)) 58 aB
 rw [World.size_alloc] at RZ0
 obtain ⟨w1,hw1⟩:∃ w1,w1=(w.alloc (.cells cs.toArray 61)).alloc (.cells zP0 58):=⟨_,rfl⟩
 rw [← hw1] at RG0
 have RG:=Hd RG0
 have RZ:=Hd (show aq 58 w1 (w.heap.size+1) aB by rw [hw1];exact RZ0)
 have H1:=Hd (show Below w.heap.size w w1 by rw [hw1];exact ae (af w _) (af _ _))
 have HW:=Hd hw1
 clear hcs hx hA hT hE hsl hsx hml RG0 RZ0 hw1
 go_enter Tryz.func18,Tryz.ntmps18
 go_wp2_with ((with_reducible show wpList _ _ _ (⟨some 10,_,_,_,_,_⟩::_) _ _);refine wpList_load_mid rfl 61 _ rfl w.heap.size 0 rfl cs _ (by rw [← HW.out];exact RG.out.range) Tryz.underlying61 rfl hlc.out ?_)
 rw [← HW.out]
 refine (tF l x fa fc ms cs w1 B N hN h4 (Nat.le_trans hB H1.out.size) (HE.out.then H1.out) (HT.out.below H1.out) HSL.out HSX.out (av.below (H1.out.mono hB) _ HA.out) (HX.out.below (H1.out.mono hB)) HCS.out).mono ?_
 rintro e w2 ⟨rfl,hb2⟩
 have H2:=Hd (ae H1.out hb2)
 have RG2:=Hd (RG.out.then hb2)
 have RZ2:=Hd (RZ.out.then hb2)
 clear hb2 HW RG RZ H1
 have HF:=Hd (fun (w':World) (hb:Below w.heap.size w w')=>dI.bad (N:=N) h0 hb)
 generalize dP l x=p at *
 have n0:(p != 0)=true:=by simpa using h0
 go_wp2_with ((with_reducible show wpList _ _ _ (⟨none,.store 58 (.tmp 2) (.tmp 14),_,_,_,_⟩::_) _ _);refine aD rfl 58 _ _ rfl (w.heap.size+1) 0 aB rfl rfl 58 aB aB RZ2.out aO rfl (Nat.le_refl 55) (dM w 0 0).one ?_)
 refine bodyPost_ret (ap rfl _ _ (w.heap.size+1) 58 aB.toArray (0,0) _ rfl (RZ2.out.setRow aB) Tryz.underlying58 rfl aO) rfl ?_
 exact HF.out _ (below_setRow H2.out (by omega) _)
set_option maxRecDepth 100000 in
set_option maxHeartbeats 102400000 in
theorem Bt (l:List al) (x:ag) (fa:Option Addr) (fc:Nat) (ms cs:List Value) (w:World) (B N:Nat) (hN:N≤1048576) (h4:4≤B) (hB:B≤w.heap.size) (hE:Env w) (hT:cI w) (hsl:gY l) (hsx:cc x) (hln:l.length≤N) (hA:av w B N l fa) (hx:ag.At w B N x ms) (hcs:cs=.slice fa l.length fc::ms) (h0:dP l x=0):Calls Tryz.prog 18 #[.agg cs.toArray] w (dI N l x w):=by
 have hml:ms.length=17:=hx.len
 have HMS:=Hd (show (cs.drop 1).take 17=ms by rw [hcs];exact List.take_of_length_le (show ms.length≤17 by omega))
 have hlm:=Hd (show (Tryz.prog.info? 34).map (·.size)=some ms.length by rw [hml];exact ay)
 have hlm2:=Hd (show (Tryz.prog.info? 34).map (·.size)=some ms.toArray.size by rw [List.size_toArray,hml];exact ay)
 have hlm3:=Hd (show ai.toArray.size=ms.toArray.size by show 17=_;rw [List.size_toArray,hml])
 have HOM:=Hd (show ms.toArray.all (·.oneCell')=true from Go.all_oneCell_toArray hx.one)
 have HML:=Hd hml
 have hlc:=Hd (show (Tryz.prog.info? 61).map (·.size)=some cs.length by rw [hcs,List.length_cons,hml];exact lg)
 have HC0:=Hd (show cs[0]?=some (.slice fa l.length fc) by rw [hcs];rfl)
 have HCS:=Hd hcs
 have HX:=Hd hx
 have HA:=Hd hA
 have HT:=Hd hT
 have HE:=Hd hE
 have HSL:=Hd hsl
 have HSX:=Hd hsx
 have RG0:=(aq.new w 61 cs).alloc (.cells zP0 58)
 have RZ0:=aq.new (w.alloc (.cells cs.toArray 61)) 58 aB
 rw [World.size_alloc] at RZ0
 obtain ⟨w1,hw1⟩:∃ w1,w1=(w.alloc (.cells cs.toArray 61)).alloc (.cells zP0 58):=⟨_,rfl⟩
 rw [← hw1] at RG0
 have RG:=Hd RG0
 have RZ:=Hd (show aq 58 w1 (w.heap.size+1) aB by rw [hw1];exact RZ0)
 have H1:=Hd (show Below w.heap.size w w1 by rw [hw1];exact ae (af w _) (af _ _))
 have HW:=Hd hw1
 clear hcs hx hA hT hE hsl hsx hml RG0 RZ0 hw1
 go_enter Tryz.func18,Tryz.ntmps18
 go_wp2_with ((with_reducible show wpList _ _ _ (⟨some 10,_,_,_,_,_⟩::_) _ _);refine wpList_load_mid rfl 61 _ rfl w.heap.size 0 rfl cs _ (by rw [← HW.out];exact RG.out.range) Tryz.underlying61 rfl hlc.out ?_)
 rw [← HW.out]
 refine (tF l x fa fc ms cs w1 B N hN h4 (Nat.le_trans hB H1.out.size) (HE.out.then H1.out) (HT.out.below H1.out) HSL.out HSX.out (av.below (H1.out.mono hB) _ HA.out) (HX.out.below (H1.out.mono hB)) HCS.out).mono ?_
 rintro e w2 ⟨rfl,hb2⟩
 have H2:=Hd (ae H1.out hb2)
 have RG2:=Hd (RG.out.then hb2)
 have RZ2:=Hd (RZ.out.then hb2)
 clear hb2 HW RG RZ H1
 rw [h0]
 go_wp2_with fail
 have HB0:=Hd (cG w2)
 refine' Db (F:=fun (u:World) (g5 g6:Nat)=>Below w2.heap.size w2 u∧w2.heap.size≤g5∧w2.heap.size≤g6∧g5≠g6∧aq 34 u g5 ms∧aq 34 u g6 iE0) ?mm ?tt
 case mm =>
  intro TAIL
  have TL:=Hd TAIL
  clear TAIL
  refine wp_region_held_drew (S:=fun u=>Below w2.heap.size w2 u) (by kernel_rfl) HB0.out (fun hHeld=>?_)
  refine' tk 0 (.pointer (some ⟨w.heap.size,1,none⟩)) rfl rfl (.inl ⟨by rfl,fun u hu=>(by go_simp)⟩) hHeld ?_
  simp only [sq1,sq0]
  refine' tk 1 (.agg ms.toArray) rfl rfl (yieldsIf_load_mid (by kernel_rfl) 34 _ rfl (w.heap.size) (1) rfl ms _ (fun u hu=>(RG2.out.then hu).cells.part HMS.out) Tryz.underlying34 rfl hlm.out) hHeld ?_
  simp only [sq1,sq0]
  refine wpAnyH_ready (rs:=[2,3,4]) (by kernel_rfl) (by simp) ?_
  refine AllReadyH.cons rfl (fun K hK=>?_) (AllReadyH.cons rfl (fun K hK=>?_) (AllReadyH.cons rfl (fun K hK=>?_) (AllReadyH.nil)))
  ·go_simp
   refine (iK _).mono ?_
   rintro e1 u1 ⟨rfl,hb1⟩
   have hC:=ae hHeld hb1
   have hq1:w2.heap.size≤u1.heap.size:=hC.size
   refine hK.out _ _ hC (fun hH0=>?_)
   clear hK K hb1 hC
   refine wpAnyH_ready (rs:=[3,4]) (by kernel_rfl) (by simp) ?_
   refine AllReadyH.cons rfl (fun K hK=>?_) (AllReadyH.cons rfl (fun K hK=>?_) (AllReadyH.nil))
   ·go_simp
    have R5:aq 34 (u1.alloc (.cells zE0 34)) (u1.heap.size) ai:=by
     have h:=aq.new u1 34 ai
     rw [show u1.heap.size=u1.heap.size by simp] at h
     exact h
    refine hK.out _ _ (ae hH0 (af _ _)) (fun hH1=>?_)
    clear hK K
    refine rd1 4 rfl (fun K hK=>?_)
    go_simp
    have R5:=R5.alloc (.cells zE0 34)
    have R6:aq 34 ((u1.alloc (.cells zE0 34)).alloc (.cells zE0 34)) (u1.heap.size+1) ai:=by
     have h:=aq.new (u1.alloc (.cells zE0 34)) 34 ai
     rw [show (u1.alloc (.cells zE0 34)).heap.size=u1.heap.size+1 by simp] at h
     exact h
    refine hK.out _ _ (ae hH1 (af _ _)) (fun hH2=>?_)
    clear hK K
    refine rd1 5 rfl (fun K hK=>?_)
    rw [if_pos (by kernel_rfl)]
    refine wp_store_row 34 _ _ rfl (u1.heap.size) ms.toArray rfl rfl 34 ai.toArray R5 hlm2.out hlm3.out HOM.out ?_
    have R5s:=R5.setRow ms
    have R6s:=R6.setRowOther (b':=u1.heap.size) (by omega) ms.toArray
    have hS:=below_setRow hH2 (show w2.heap.size≤u1.heap.size by omega) ms.toArray
    refine hK.out _ _ hS (fun hHeldx=>?_)
    clear hK K hHeldx
    refine rd1 6 rfl (fun K hK=>?_)
    rw [if_pos (by kernel_rfl)]
    refine wp_store_row 34 _ _ rfl (u1.heap.size+1) (iE0:List Value).toArray rfl rfl 34 ai.toArray R6s ay rfl kx ?_
    have R6t:=R6s.setRow iE0
    have R5t:=R5s.setRowOther (b':=u1.heap.size+1) (by omega) (iE0:List Value).toArray
    have hS2:=below_setRow hS (show w2.heap.size≤u1.heap.size+1 by omega) (iE0:List Value).toArray
    refine hK.out _ _ hS2 (fun hHeldx=>?_)
    clear hK K hHeldx
    refine wpAnyH_done (by kernel_rfl) ?_ _
    have hF:Below w2.heap.size w2 _∧w2.heap.size≤u1.heap.size∧w2.heap.size≤u1.heap.size+1∧u1.heap.size≠u1.heap.size+1∧aq 34 _ (u1.heap.size) ms∧aq 34 _ (u1.heap.size+1) iE0:=⟨hS2,by omega,by omega,by omega,R5t,R6t⟩
    clear R5 R6 R5s R6s R5t R6t hS hS2
    generalize World.setRow _ _ _=u5 at hF ⊢
    generalize u1.heap.size+1=g6 at hF ⊢
    generalize u1.heap.size=g5 at hF ⊢
    exact TL.out _ _ _ hF
   ·go_simp
    have R6:aq 34 (u1.alloc (.cells zE0 34)) (u1.heap.size) ai:=by
     have h:=aq.new u1 34 ai
     rw [show u1.heap.size=u1.heap.size by simp] at h
     exact h
    refine hK.out _ _ (ae hH0 (af _ _)) (fun hH1=>?_)
    clear hK K
    refine rd1 3 rfl (fun K hK=>?_)
    go_simp
    have R6:=R6.alloc (.cells zE0 34)
    have R5:aq 34 ((u1.alloc (.cells zE0 34)).alloc (.cells zE0 34)) (u1.heap.size+1) ai:=by
     have h:=aq.new (u1.alloc (.cells zE0 34)) 34 ai
     rw [show (u1.alloc (.cells zE0 34)).heap.size=u1.heap.size+1 by simp] at h
     exact h
    refine hK.out _ _ (ae hH1 (af _ _)) (fun hH2=>?_)
    clear hK K
    refine rd1 5 rfl (fun K hK=>?_)
    rw [if_pos (by kernel_rfl)]
    refine wp_store_row 34 _ _ rfl (u1.heap.size+1) ms.toArray rfl rfl 34 ai.toArray R5 hlm2.out hlm3.out HOM.out ?_
    have R5s:=R5.setRow ms
    have R6s:=R6.setRowOther (b':=u1.heap.size+1) (by omega) ms.toArray
    have hS:=below_setRow hH2 (show w2.heap.size≤u1.heap.size+1 by omega) ms.toArray
    refine hK.out _ _ hS (fun hHeldx=>?_)
    clear hK K hHeldx
    refine rd1 6 rfl (fun K hK=>?_)
    rw [if_pos (by kernel_rfl)]
    refine wp_store_row 34 _ _ rfl (u1.heap.size) (iE0:List Value).toArray rfl rfl 34 ai.toArray R6s ay rfl kx ?_
    have R6t:=R6s.setRow iE0
    have R5t:=R5s.setRowOther (b':=u1.heap.size) (by omega) (iE0:List Value).toArray
    have hS2:=below_setRow hS (show w2.heap.size≤u1.heap.size by omega) (iE0:List Value).toArray
    refine hK.out _ _ hS2 (fun hHeldx=>?_)
    clear hK K hHeldx
    refine wpAnyH_done (by kernel_rfl) ?_ _
    have hF:Below w2.heap.size w2 _∧w2.heap.size≤u1.heap.size+1∧w2.heap.size≤u1.heap.size∧u1.heap.size+1≠u1.heap.size∧aq 34 _ (u1.heap.size+1) ms∧aq 34 _ (u1.heap.size) iE0:=⟨hS2,by omega,by omega,by omega,R5t,R6t⟩
    clear R5 R6 R5s R6s R5t R6t hS hS2
    generalize World.setRow _ _ _=u5 at hF ⊢
    exact TL.out _ _ _ hF
  ·go_simp
   have R5:aq 34 (w2.drew.alloc (.cells zE0 34)) (w2.heap.size) ai:=by
    have h:=aq.new w2.drew 34 ai
    rw [show w2.drew.heap.size=w2.heap.size by simp] at h
    exact h
   refine hK.out _ _ (ae hHeld (af _ _)) (fun hH0=>?_)
   clear hK K
   refine wpAnyH_ready (rs:=[2,4]) (by kernel_rfl) (by simp) ?_
   refine AllReadyH.cons rfl (fun K hK=>?_) (AllReadyH.cons rfl (fun K hK=>?_) (AllReadyH.nil))
   ·go_simp
    refine (iK _).mono ?_
    rintro e1 u1 ⟨rfl,hb1⟩
    have hC:=ae hH0 hb1
    have hq1:w2.heap.size≤u1.heap.size:=hC.size
    have R5:=R5.then hb1
    have l5:=R5.lt
    refine hK.out _ _ hC (fun hH1=>?_)
    clear hK K hb1 hC
    refine rd1 4 rfl (fun K hK=>?_)
    go_simp
    have R5:=R5.alloc (.cells zE0 34)
    have R6:aq 34 (u1.alloc (.cells zE0 34)) (u1.heap.size) ai:=by
     have h:=aq.new u1 34 ai
     rw [show u1.heap.size=u1.heap.size by simp] at h
     exact h
    refine hK.out _ _ (ae hH1 (af _ _)) (fun hH2=>?_)
    clear hK K
    refine rd1 5 rfl (fun K hK=>?_)
    rw [if_pos (by kernel_rfl)]
    refine wp_store_row 34 _ _ rfl (w2.heap.size) ms.toArray rfl rfl 34 ai.toArray R5 hlm2.out hlm3.out HOM.out ?_
    have R5s:=R5.setRow ms
    have R6s:=R6.setRowOther (b':=w2.heap.size) (by omega) ms.toArray
    have hS:=below_setRow hH2 (show w2.heap.size≤w2.heap.size by omega) ms.toArray
    refine hK.out _ _ hS (fun hHeldx=>?_)
    clear hK K hHeldx
    refine rd1 6 rfl (fun K hK=>?_)
    rw [if_pos (by kernel_rfl)]
    refine wp_store_row 34 _ _ rfl (u1.heap.size) (iE0:List Value).toArray rfl rfl 34 ai.toArray R6s ay rfl kx ?_
    have R6t:=R6s.setRow iE0
    have R5t:=R5s.setRowOther (b':=u1.heap.size) (by omega) (iE0:List Value).toArray
    have hS2:=below_setRow hS (show w2.heap.size≤u1.heap.size by omega) (iE0:List Value).toArray
    refine hK.out _ _ hS2 (fun hHeldx=>?_)
    clear hK K hHeldx
    refine wpAnyH_done (by kernel_rfl) ?_ _
    have hF:Below w2.heap.size w2 _∧w2.heap.size≤w2.heap.size∧w2.heap.size≤u1.heap.size∧w2.heap.size≠u1.heap.size∧aq 34 _ (w2.heap.size) ms∧aq 34 _ (u1.heap.size) iE0:=⟨hS2,by omega,by omega,by omega,R5t,R6t⟩
    clear R5 R6 R5s R6s R5t R6t hS hS2
    generalize World.setRow _ _ _=u5 at hF ⊢
    exact TL.out _ _ _ hF
   ·go_simp
    have R5:=R5.alloc (.cells zE0 34)
    have R6:aq 34 ((w2.drew.alloc (.cells zE0 34)).alloc (.cells zE0 34)) (w2.heap.size+1) ai:=by
     have h:=aq.new (w2.drew.alloc (.cells zE0 34)) 34 ai
     rw [show (w2.drew.alloc (.cells zE0 34)).heap.size=w2.heap.size+1 by simp] at h
     exact h
    refine hK.out _ _ (ae hH0 (af _ _)) (fun hH1=>?_)
    clear hK K
    refine rd1 2 rfl (fun K hK=>?_)
    go_simp
    refine (iK _).mono ?_
    rintro e1 u1 ⟨rfl,hb1⟩
    have hC:=ae hH1 hb1
    have hq1:w2.heap.size≤u1.heap.size:=hC.size
    have R5:=R5.then hb1
    have l5:=R5.lt
    have R6:=R6.then hb1
    have l6:=R6.lt
    refine hK.out _ _ hC (fun hH2=>?_)
    clear hK K hb1 hC
    refine rd1 5 rfl (fun K hK=>?_)
    rw [if_pos (by kernel_rfl)]
    refine wp_store_row 34 _ _ rfl (w2.heap.size) ms.toArray rfl rfl 34 ai.toArray R5 hlm2.out hlm3.out HOM.out ?_
    have R5s:=R5.setRow ms
    have R6s:=R6.setRowOther (b':=w2.heap.size) (by omega) ms.toArray
    have hS:=below_setRow hH2 (show w2.heap.size≤w2.heap.size by omega) ms.toArray
    refine hK.out _ _ hS (fun hHeldx=>?_)
    clear hK K hHeldx
    refine rd1 6 rfl (fun K hK=>?_)
    rw [if_pos (by kernel_rfl)]
    refine wp_store_row 34 _ _ rfl (w2.heap.size+1) (iE0:List Value).toArray rfl rfl 34 ai.toArray R6s ay rfl kx ?_
    have R6t:=R6s.setRow iE0
    have R5t:=R5s.setRowOther (b':=w2.heap.size+1) (by omega) (iE0:List Value).toArray
    have hS2:=below_setRow hS (show w2.heap.size≤w2.heap.size+1 by omega) (iE0:List Value).toArray
    refine hK.out _ _ hS2 (fun hHeldx=>?_)
    clear hK K hHeldx
    refine wpAnyH_done (by kernel_rfl) ?_ _
    have hF:Below w2.heap.size w2 _∧w2.heap.size≤w2.heap.size∧w2.heap.size≤w2.heap.size+1∧w2.heap.size≠w2.heap.size+1∧aq 34 _ (w2.heap.size) ms∧aq 34 _ (w2.heap.size+1) iE0:=⟨hS2,by omega,by omega,by omega,R5t,R6t⟩
    clear R5 R6 R5s R6s R5t R6t hS hS2
    generalize World.setRow _ _ _=u5 at hF ⊢
    exact TL.out _ _ _ hF
  ·go_simp
   have R6:aq 34 (w2.drew.alloc (.cells zE0 34)) (w2.heap.size) ai:=by
    have h:=aq.new w2.drew 34 ai
    rw [show w2.drew.heap.size=w2.heap.size by simp] at h
    exact h
   refine hK.out _ _ (ae hHeld (af _ _)) (fun hH0=>?_)
   clear hK K
   refine wpAnyH_ready (rs:=[2,3]) (by kernel_rfl) (by simp) ?_
   refine AllReadyH.cons rfl (fun K hK=>?_) (AllReadyH.cons rfl (fun K hK=>?_) (AllReadyH.nil))
   ·go_simp
    refine (iK _).mono ?_
    rintro e1 u1 ⟨rfl,hb1⟩
    have hC:=ae hH0 hb1
    have hq1:w2.heap.size≤u1.heap.size:=hC.size
    have R6:=R6.then hb1
    have l6:=R6.lt
    refine hK.out _ _ hC (fun hH1=>?_)
    clear hK K hb1 hC
    refine rd1 3 rfl (fun K hK=>?_)
    go_simp
    have R6:=R6.alloc (.cells zE0 34)
    have R5:aq 34 (u1.alloc (.cells zE0 34)) (u1.heap.size) ai:=by
     have h:=aq.new u1 34 ai
     rw [show u1.heap.size=u1.heap.size by simp] at h
     exact h
    refine hK.out _ _ (ae hH1 (af _ _)) (fun hH2=>?_)
    clear hK K
    refine rd1 5 rfl (fun K hK=>?_)
    rw [if_pos (by kernel_rfl)]
    refine wp_store_row 34 _ _ rfl (u1.heap.size) ms.toArray rfl rfl 34 ai.toArray R5 hlm2.out hlm3.out HOM.out ?_
    have R5s:=R5.setRow ms
    have R6s:=R6.setRowOther (b':=u1.heap.size) (by omega) ms.toArray
    have hS:=below_setRow hH2 (show w2.heap.size≤u1.heap.size by omega) ms.toArray
    refine hK.out _ _ hS (fun hHeldx=>?_)
    clear hK K hHeldx
    refine rd1 6 rfl (fun K hK=>?_)
    rw [if_pos (by kernel_rfl)]
    refine wp_store_row 34 _ _ rfl (w2.heap.size) (iE0:List Value).toArray rfl rfl 34 ai.toArray R6s ay rfl kx ?_
    have R6t:=R6s.setRow iE0
    have R5t:=R5s.setRowOther (b':=w2.heap.size) (by omega) (iE0:List Value).toArray
    have hS2:=below_setRow hS (show w2.heap.size≤w2.heap.size by omega) (iE0:List Value).toArray
    refine hK.out _ _ hS2 (fun hHeldx=>?_)
    clear hK K hHeldx
    refine wpAnyH_done (by kernel_rfl) ?_ _
    have hF:Below w2.heap.size w2 _∧w2.heap.size≤u1.heap.size∧w2.heap.size≤w2.heap.size∧u1.heap.size≠w2.heap.size∧aq 34 _ (u1.heap.size) ms∧aq 34 _ (w2.heap.size) iE0:=⟨hS2,by omega,by omega,by omega,R5t,R6t⟩
    clear R5 R6 R5s R6s R5t R6t hS hS2
    generalize World.setRow _ _ _=u5 at hF ⊢
    exact TL.out _ _ _ hF
   ·go_simp
    have R6:=R6.alloc (.cells zE0 34)
    have R5:aq 34 ((w2.drew.alloc (.cells zE0 34)).alloc (.cells zE0 34)) (w2.heap.size+1) ai:=by
     have h:=aq.new (w2.drew.alloc (.cells zE0 34)) 34 ai
     rw [show (w2.drew.alloc (.cells zE0 34)).heap.size=w2.heap.size+1 by simp] at h
     exact h
    refine hK.out _ _ (ae hH0 (af _ _)) (fun hH1=>?_)
    clear hK K
    refine rd1 2 rfl (fun K hK=>?_)
    go_simp
    refine (iK _).mono ?_
    rintro e1 u1 ⟨rfl,hb1⟩
    have hC:=ae hH1 hb1
    have hq1:w2.heap.size≤u1.heap.size:=hC.size
    have R5:=R5.then hb1
    have l5:=R5.lt
    have R6:=R6.then hb1
    have l6:=R6.lt
    refine hK.out _ _ hC (fun hH2=>?_)
    clear hK K hb1 hC
    refine rd1 5 rfl (fun K hK=>?_)
    rw [if_pos (by kernel_rfl)]
    refine wp_store_row 34 _ _ rfl (w2.heap.size+1) ms.toArray rfl rfl 34 ai.toArray R5 hlm2.out hlm3.out HOM.out ?_
    have R5s:=R5.setRow ms
    have R6s:=R6.setRowOther (b':=w2.heap.size+1) (by omega) ms.toArray
    have hS:=below_setRow hH2 (show w2.heap.size≤w2.heap.size+1 by omega) ms.toArray
    refine hK.out _ _ hS (fun hHeldx=>?_)
    clear hK K hHeldx
    refine rd1 6 rfl (fun K hK=>?_)
    rw [if_pos (by kernel_rfl)]
    refine wp_store_row 34 _ _ rfl (w2.heap.size) (iE0:List Value).toArray rfl rfl 34 ai.toArray R6s ay rfl kx ?_
    have R6t:=R6s.setRow iE0
    have R5t:=R5s.setRowOther (b':=w2.heap.size) (by omega) (iE0:List Value).toArray
    have hS2:=below_setRow hS (show w2.heap.size≤w2.heap.size by omega) (iE0:List Value).toArray
    refine hK.out _ _ hS2 (fun hHeldx=>?_)
    clear hK K hHeldx
    refine wpAnyH_done (by kernel_rfl) ?_ _
    have hF:Below w2.heap.size w2 _∧w2.heap.size≤w2.heap.size+1∧w2.heap.size≤w2.heap.size∧w2.heap.size+1≠w2.heap.size∧aq 34 _ (w2.heap.size+1) ms∧aq 34 _ (w2.heap.size) iE0:=⟨hS2,by omega,by omega,by omega,R5t,R6t⟩
    clear R5 R6 R5s R6s R5t R6t hS hS2
    generalize World.setRow _ _ _=u5 at hF ⊢
    exact TL.out _ _ _ hF
 clear HB0
 rintro u g5 g6 ⟨hbu,hg5,hg6,hne,r5,r6⟩
 have R5:=Hd r5
 have R6:=Hd r6
 have HU2:=Hd hbu
 have hwz:w.heap.size+1<w2.heap.size:=RZ2.out.lt
 clear hbu r5 r6
 have hx:=HX.out
 have hwx:=xT (lQ h0)
 have hdx:=(mi (lQ h0)).1
 have HFN:=Hd (i8 (nj h0))
 by_cases h9:x.op=9
 case' pos =>
  have hxl:=eE (gM hwx) (n:=2) (by rw [h9];decide)
  obtain ⟨xa,xf,xac,xfc,xvs,xh⟩:=hx.has
  obtain ⟨bx,ox,rfl,hbx,hgx⟩:=xh.atArgs.get (by intro h;simp [h] at hxl)
  obtain ⟨em,y1,y2⟩:=hgx 0 (by omega)
  obtain ⟨dm,y3,y4⟩:=hgx 1 (by omega)
  rw [Nat.zero_mul,Nat.add_zero] at y1
  rw [Nat.one_mul] at y3
  have m0:ms[0]?=some (.int .i64 9):=by rw [xh.op,h9]
  have m15:ms[15]?=some (.slice (some ⟨bx,ox,none⟩) 2 xac):=by rw [xh.args,hxl]
  have HM15:=Hd m15
  have HC16:=Hd (show cs[16]?=some (.slice (some ⟨bx,ox,none⟩) 2 xac) by rw [HCS.out];exact m15)
  obtain ⟨e,he⟩:∃ e,e=x.args[0]:=⟨_,rfl⟩
  obtain ⟨d,hd⟩:∃ d,d=x.args[1]:=⟨_,rfl⟩
  have hme:dR x=e:=by rw [he];exact lZ h9 (by omega)
  have hbd:gg x=d:=by rw [hd];exact mD h9 (by omega)
  have hwe:e.op=30∨wfE 47 e:=by rw [he];exact gS hwx (by omega)
  have hde:∃ m,dpE (m+1) e:=⟨45,by rw [he];exact fR (m:=46) hdx 0 (by omega)⟩
  have HCD:=Hd (show r9 d by rw [hd];exact cZ 46 _ (fR (m:=46) hdx 1 (by omega)))
  rw [← he] at y2
  rw [← hd] at y4
  have HY1:=Hd y1
  have HY3:=Hd y3
  have HBX:=Hd hbx
  have HEM:=Hd y2
  have HDM:=Hd y4
  clear hgx xh y1 y3 hbx he hd h9 hxl m15 hdx
 case' neg =>
  obtain ⟨em,hem⟩:∃ em,em=ms:=⟨_,rfl⟩
  subst hem
  obtain ⟨dm,hdm⟩:∃ dm,dm=(iE0:List Value):=⟨_,rfl⟩
  obtain ⟨e,he⟩:∃ e,e=x:=⟨_,rfl⟩
  obtain ⟨d,hd⟩:∃ d,d=fu:=⟨_,rfl⟩
  have hme:dR x=e:=by rw [he];exact pP h9
  have hbd:gg x=d:=by rw [hd];exact qI h9
  have hwe:e.op=30∨wfE 47 e:=.inr (by rw [he];exact hwx)
  have hde:∃ m,dpE (m+1) e:=⟨46,by rw [he];exact hdx⟩
  have HCD:=Hd (show r9 d by rw [hd];exact cZ 0 _ mn)
  have y2:ag.At w B N e em:=by rw [he];exact hx
  have y4:ag.At w B N d dm:=by rw [hd,hdm];exact kv w B N
  have HEM:=Hd y2
  have HDM:=Hd y4
  have HE9:=Hd (show (e.op==9)=false by rw [he];simpa using h9)
  have HDD:=Hd hdm
  clear he hd h9 hdm hdx
 all_goals
  obtain ⟨eaa,efa,eac,efc,evs,eh⟩:=y2.has
  have k1:=eh.name
  have hen:e.name.size≤N:=eh.own.2.1
  have ELEN:=Hd (show em.length=17 from eh.len)
  have hle:=Hd (show (Tryz.prog.info? 34).map (·.size)=some em.length by rw [ELEN.out];exact ay)
  have hle2:=Hd (show (Tryz.prog.info? 34).map (·.size)=some em.toArray.size by rw [List.size_toArray,ELEN.out];exact ay)
  have hle3:=Hd (show ai.toArray.size=em.toArray.size by show 17=_;rw [List.size_toArray,ELEN.out])
  have HOA:=Hd (show em.toArray.all (·.oneCell')=true from Go.all_oneCell_toArray y2.one)
  have DLEN:=Hd (show dm.length=17 from y4.len)
  have hld:=Hd (show (Tryz.prog.info? 34).map (·.size)=some dm.length by rw [DLEN.out];exact ay)
  have hld2:=Hd (show (Tryz.prog.info? 34).map (·.size)=some dm.toArray.size by rw [List.size_toArray,DLEN.out];exact ay)
  have HOD:=Hd (show dm.toArray.all (·.oneCell')=true from Go.all_oneCell_toArray y4.one)
  have k0g:em[0]?=some (.int .i64 e.op):=eh.op
  have HEH:=Hd eh
  have HDE:=Hd hde
  have HME:=Hd hme
  have HBD:=Hd hbd
  have HWE:=Hd hwe
  clear eh y2 y4 hwx hwe hme hbd hde
 case' pos =>
  have n0:=R5.out.cell m0
  go_wp2_with fail
  have hHU:=ae HU2.out (cG u)
  refine wp_region_held_drew (S:=fun v=>Below w2.heap.size w2 v) (by kernel_rfl) hHU (fun hHeld=>?_)
  refine' tk 0 (.pointer (some ⟨w.heap.size,1,none⟩)) rfl rfl (.inl ⟨by rfl,fun u hu=>(by go_simp)⟩) hHeld ?_
  simp only [sq1,sq0]
  refine' tk 1 (.pointer (some ⟨w.heap.size,16,none⟩)) rfl rfl (.inl ⟨by rfl,fun u hu=>(by go_simp)⟩) hHeld ?_
  simp only [sq1,sq0]
  refine' tk 2 (.slice (some ⟨bx,ox,none⟩) 2 xac) rfl rfl (.inl ⟨by rfl,fun u hu=>(by have hc:=(RG2.out.then hu).cell HC16.out;go_simp)⟩) hHeld ?_
  simp only [sq1,sq0]
  refine' tk 3 (.pointer (some ⟨bx,ox,none⟩)) rfl rfl (.inl ⟨by rfl,fun u hu=>(by go_simp)⟩) hHeld ?_
  simp only [sq1,sq0]
  refine' tk 4 (.agg em.toArray) rfl rfl (yieldsIf_load_mid (by kernel_rfl) 34 _ rfl (bx) (ox) rfl em _ (fun u hu=>(HY1.out.below ((ae H2.out hu).mono hB) HBX.out).range) Tryz.underlying34 rfl hle.out) hHeld ?_
  simp only [sq1,sq0]
  refine' tk 5 (.pointer (some ⟨w.heap.size,1,none⟩)) rfl rfl (.inl ⟨by rfl,fun u hu=>(by go_simp)⟩) hHeld ?_
  simp only [sq1,sq0]
  refine' tk 6 (.pointer (some ⟨w.heap.size,16,none⟩)) rfl rfl (.inl ⟨by rfl,fun u hu=>(by go_simp)⟩) hHeld ?_
  simp only [sq1,sq0]
  refine' tk 7 (.slice (some ⟨bx,ox,none⟩) 2 xac) rfl rfl (.inl ⟨by rfl,fun u hu=>(by have hc:=(RG2.out.then hu).cell HC16.out;go_simp)⟩) hHeld ?_
  simp only [sq1,sq0]
  refine' tk 8 (.pointer (some ⟨bx,ox+17,none⟩)) rfl rfl (.inl ⟨by rfl,fun u hu=>(by go_simp)⟩) hHeld ?_
  simp only [sq1,sq0]
  refine' tk 9 (.agg dm.toArray) rfl rfl (yieldsIf_load_mid (by kernel_rfl) 34 _ rfl (bx) (ox+17) rfl dm _ (fun u hu=>(HY3.out.below ((ae H2.out hu).mono hB) HBX.out).range) Tryz.underlying34 rfl hld.out) hHeld ?_
  simp only [sq1,sq0]
  refine rd1 10 rfl (fun K hK=>?_)
  rw [if_pos (by kernel_rfl)]
  refine wp_store_row 34 _ _ rfl g5 em.toArray rfl rfl 34 ms.toArray R5.out.drew hle2.out (by rw [List.size_toArray,List.size_toArray,ELEN.out];exact HML.out) HOA.out ?_
  have Q5:=R5.out.drew.setRow em
  have Q6:=R6.out.drew.setRowOther (b':=g5) (by omega) em.toArray
  have hS:=below_setRow hHeld hg5 em.toArray
  refine hK.out _ _ hS (fun hHeldx=>?_)
  clear hK K hHeldx
  refine rd1 11 rfl (fun K hK=>?_)
  rw [if_pos (by kernel_rfl)]
  refine wp_store_row 34 _ _ rfl g6 dm.toArray rfl rfl 34 (iE0:List Value).toArray Q6 hld2.out (by show 17=_;rw [List.size_toArray,DLEN.out]) HOD.out ?_
  have P6:=Q6.setRow dm
  have P5:=Q5.setRowOther (b':=g6) (by omega) dm.toArray
  have hS2:=below_setRow hS hg6 dm.toArray
  refine hK.out _ _ hS2 (fun hHeldx=>?_)
  clear hK K hHeldx
  refine wpAnyH_done (by kernel_rfl) ?_ _
  have hF:Below w2.heap.size w2 _∧aq 34 _ g5 em∧aq 34 _ g6 dm:=⟨hS2,P5,P6⟩
  clear Q5 Q6 P5 P6 hS hS2 hHeld hHU n0
  generalize World.setRow _ _ _=v at hF ⊢
  obtain ⟨hbv,s5,s6⟩:=hF
  have S5:=Hd s5
  have S6:=Hd s6
  have HV2:=Hd hbv
  clear hbv s5 s6 R5 R6 HU2
 case' neg =>
  have n0:=R5.out.cell k0g
  have he9:=HE9.out
  obtain ⟨v,hv⟩:∃ v,v=u:=⟨_,rfl⟩
  rw [← hv] at R5 R6 HU2 n0 ⊢
  have S5:=Hd (show aq 34 v g5 em from R5.out)
  have S6:=Hd (show aq 34 v g6 dm by rw [HDD.out];exact R6.out)
  have HV2:=HU2
  clear R5 R6 HU2 hv
 all_goals
  have HV:=Hd (ae H2.out HV2.out)
  have T5:=Hd S5.out.lt
  have T6:=Hd S6.out.lt
  have RGv:=Hd (RG2.out.then HV2.out)
  have RZv:=Hd (RZ2.out.then HV2.out)
  have hw2v:w2.heap.size≤v.heap.size:=HV2.out.size
  go_wp2_with fail
  have HB7:=Hd (cG v)
  refine' Da (F:=fun (u:World) (g:Nat) (bcs:List Value) (fb:Option Addr) (fd:Nat)=>Below v.heap.size v u∧v.heap.size≤g∧bcs.length=17∧(∀ z∈bcs,z.oneCell'=true)∧aq 58 u g (ao 1 (.slice none 0 0) ⟨#[]⟩ ai ai bcs (.slice fb l.length fd))∧gj w2.heap.size B N (·=g) w u d bcs∧iW w2.heap.size B N (·=g) w u l fb) ?_ ?_
  rotate_left
  ·intro TAIL
   have TL:=Hd TAIL
   clear TAIL
   refine wp_region_held_drew (S:=fun z=>Below v.heap.size v z) (by kernel_rfl) HB7.out (fun hHeld=>?_)
   refine' tk 0 (.agg dm.toArray) rfl rfl (yieldsIf_load_mid (by kernel_rfl) 34 _ rfl (g6) (0) rfl dm _ (fun u hu=>(S6.out.then hu).range) Tryz.underlying34 rfl hld.out) hHeld ?_
   simp only [sq1,sq0]
   refine' tk 2 (.pointer (some ⟨w.heap.size,0,none⟩)) rfl rfl (.inl ⟨by rfl,fun u hu=>(by go_simp)⟩) hHeld ?_
   simp only [sq1,sq0]
   refine' tk 3 (.slice fa l.length fc) rfl rfl (.inl ⟨by rfl,fun u hu=>(by have hc:=(RGv.out.then hu).cell HC0.out;go_simp)⟩) hHeld ?_
   simp only [sq1,sq0]
   refine wpAnyH_ready (rs:=[1,6]) (by kernel_rfl) (by simp) ?_
   refine AllReadyH.cons rfl (fun K hK=>?_) (AllReadyH.cons rfl (fun K hK=>?_) (AllReadyH.nil))
   ·go_simp
    have HAC:=Hd (show Below B w v.drew from (ae HV.out hHeld).mono hB)
    have hc1:v.heap.size≤(v.drew).heap.size:=hHeld.size
    refine (HCD.out v.drew B N dm hN (Nat.le_trans hB HAC.out.size) (HDM.out.below HAC.out)).mono ?_
    rintro e1 u1 ⟨bcs,rfl,hsc,hb1⟩
    have HSC:=Hd hsc
    have hcp:=hsc.here (hb1.mono (Nat.le_trans hB HAC.out.size))
    have HBL:=Hd (show bcs.length=17 from hcp.len)
    have HBO:=Hd hcp.one
    have hc2:(v.drew).heap.size≤u1.heap.size:=hb1.size
    have KC:=bO.refl (v.drew).heap.size none u1
    have hC:=ae hHeld hb1
    refine hK.out _ _ hC (fun hH0=>?_)
    clear hK K hcp hsc hC
    refine wpAnyH_ready (rs:=[4,6]) (by kernel_rfl) (by simp) ?_
    refine AllReadyH.cons rfl (fun K hK=>?_) (AllReadyH.cons rfl (fun K hK=>?_) (AllReadyH.nil))
    ·go_simp
     have HAF:=Hd (show Below B w u1 from (ae HV.out hH0).mono hB)
     have hf1:u1.heap.size≤(u1).heap.size:=by simp
     refine (HFN.out u1 B N fa fc hln hN (Nat.le_trans hB HAF.out.size) (av.below HAF.out _ HA.out)).mono ?_
     rintro e2 u2 ⟨fb,fd,rfl,hsf,hb2⟩
     have HSF:=Hd hsf
     have hf2:(u1).heap.size≤u2.heap.size:=hb2.size
     have KF:=bO.refl (u1).heap.size none u2
     have KC:=cK KC hb2
     have hC:=ae hH0 hb2
     refine hK.out _ _ hC (fun hH1=>?_)
     clear hK K hsf hC
     refine wpAnyH_ready (rs:=[5,6]) (by kernel_rfl) (by simp) ?_
     refine AllReadyH.cons rfl (fun K hK=>?_) (AllReadyH.cons rfl (fun K hK=>?_) (AllReadyH.nil))
     ·rw [if_pos (by kernel_rfl)]
      refine ff 58 _ rfl (ao 1 (.slice none 0 0) ⟨#[]⟩ ai ai bcs (.slice fb l.length fd)).toArray (by rw [List.map_toArray];exact lr bcs HBL.out fb l.length fd) ?_
      have HPB:=Hd (bl 1 (.slice none 0 0) ⟨#[]⟩ (ics:=ai) (ucs:=ai) (.slice fb l.length fd) rfl rfl HBL.out)
      refine hK.out _ _ hH1 (fun hH2=>?_)
      clear hK K
      simp only [Act.put,List.setIfInBounds_toArray]
      refine rd1 6 rfl (fun K hK=>?_)
      go_simp
      have RX:aq 58 (u2.alloc (.cells zP0 58)) (u2.heap.size) aB:=by
       have h:=aq.new (u2) 58 aB
       rw [show (u2).heap.size=u2.heap.size by simp] at h
       exact h
      have lX:=RX.lt
      have KC:=cK KC (af _ (.cells zP0 58))
      have KF:=cK KF (af _ (.cells zP0 58))
      refine hK.out _ _ (ae hH2 (af _ _)) (fun hH3=>?_)
      clear hK K
      refine rd1 7 rfl (fun K hK=>?_)
      rw [if_pos (by kernel_rfl)]
      refine wp_store_row 58 _ _ rfl (u2.heap.size) (ao 1 (.slice none 0 0) ⟨#[]⟩ ai ai bcs (.slice fb l.length fd)).toArray rfl rfl 58 aB.toArray RX (by rw [List.size_toArray,HPB.out];exact aO) (by show 55=_;rw [List.size_toArray,HPB.out]) (Go.all_oneCell_toArray (cB rfl (bu w 0 0).one (bu w 0 0).one HBO.out rfl)) ?_
      have RXs:=RX.setRow (ao 1 (.slice none 0 0) ⟨#[]⟩ ai ai bcs (.slice fb l.length fd))
      have hS:=below_setRow hH3 (show v.heap.size≤u2.heap.size by omega) (ao 1 (.slice none 0 0) ⟨#[]⟩ ai ai bcs (.slice fb l.length fd)).toArray
      have LE:=ez (X:=(·=u2.heap.size)) (M:=w2.heap.size) HSC.out HAC.out hc2 (eB (g:=u2.heap.size) (new:=(ao 1 (.slice none 0 0) ⟨#[]⟩ ai ai bcs (.slice fb l.length fd)).toArray) KC (by omega)) (by omega) (fun k hk=>by subst hk;omega)
      have LF:=jP (X:=(·=u2.heap.size)) (M:=w2.heap.size) HSF.out HAF.out hf2 (eB (g:=u2.heap.size) (new:=(ao 1 (.slice none 0 0) ⟨#[]⟩ ai ai bcs (.slice fb l.length fd)).toArray) KF (by omega)) (by omega) (fun k hk=>by subst hk;omega)
      refine hK.out _ _ hS (fun hHeldx=>?_)
      clear hK K hHeldx
      refine wpAnyH_done (by kernel_rfl) ?_ _
      have hF:Below v.heap.size v _∧v.heap.size≤u2.heap.size∧bcs.length=17∧(∀ z∈bcs,z.oneCell'=true)∧aq 58 _ (u2.heap.size) (ao 1 (.slice none 0 0) ⟨#[]⟩ ai ai bcs (.slice fb l.length fd))∧gj w2.heap.size B N (·=u2.heap.size) w _ d bcs∧iW w2.heap.size B N (·=u2.heap.size) w _ l fb:=⟨hS,by omega,HBL.out,HBO.out,RXs,LE,LF⟩
      clear RX RXs hS LE LF
      generalize World.setRow _ _ _=u5 at hF ⊢
      generalize u2.heap.size=g at hF ⊢
      exact TL.out _ _ _ _ _ hF
     ·go_simp
      have RX:aq 58 (u2.alloc (.cells zP0 58)) (u2.heap.size) aB:=by
       have h:=aq.new (u2) 58 aB
       rw [show (u2).heap.size=u2.heap.size by simp] at h
       exact h
      have lX:=RX.lt
      have KC:=cK KC (af _ (.cells zP0 58))
      have KF:=cK KF (af _ (.cells zP0 58))
      refine hK.out _ _ (ae hH1 (af _ _)) (fun hH2=>?_)
      clear hK K
      refine rd1 5 rfl (fun K hK=>?_)
      rw [if_pos (by kernel_rfl)]
      refine ff 58 _ rfl (ao 1 (.slice none 0 0) ⟨#[]⟩ ai ai bcs (.slice fb l.length fd)).toArray (by rw [List.map_toArray];exact lr bcs HBL.out fb l.length fd) ?_
      have HPB:=Hd (bl 1 (.slice none 0 0) ⟨#[]⟩ (ics:=ai) (ucs:=ai) (.slice fb l.length fd) rfl rfl HBL.out)
      refine hK.out _ _ hH2 (fun hH3=>?_)
      clear hK K
      simp only [Act.put,List.setIfInBounds_toArray]
      refine rd1 7 rfl (fun K hK=>?_)
      rw [if_pos (by kernel_rfl)]
      refine wp_store_row 58 _ _ rfl (u2.heap.size) (ao 1 (.slice none 0 0) ⟨#[]⟩ ai ai bcs (.slice fb l.length fd)).toArray rfl rfl 58 aB.toArray RX (by rw [List.size_toArray,HPB.out];exact aO) (by show 55=_;rw [List.size_toArray,HPB.out]) (Go.all_oneCell_toArray (cB rfl (bu w 0 0).one (bu w 0 0).one HBO.out rfl)) ?_
      have RXs:=RX.setRow (ao 1 (.slice none 0 0) ⟨#[]⟩ ai ai bcs (.slice fb l.length fd))
      have hS:=below_setRow hH3 (show v.heap.size≤u2.heap.size by omega) (ao 1 (.slice none 0 0) ⟨#[]⟩ ai ai bcs (.slice fb l.length fd)).toArray
      have LE:=ez (X:=(·=u2.heap.size)) (M:=w2.heap.size) HSC.out HAC.out hc2 (eB (g:=u2.heap.size) (new:=(ao 1 (.slice none 0 0) ⟨#[]⟩ ai ai bcs (.slice fb l.length fd)).toArray) KC (by omega)) (by omega) (fun k hk=>by subst hk;omega)
      have LF:=jP (X:=(·=u2.heap.size)) (M:=w2.heap.size) HSF.out HAF.out hf2 (eB (g:=u2.heap.size) (new:=(ao 1 (.slice none 0 0) ⟨#[]⟩ ai ai bcs (.slice fb l.length fd)).toArray) KF (by omega)) (by omega) (fun k hk=>by subst hk;omega)
      refine hK.out _ _ hS (fun hHeldx=>?_)
      clear hK K hHeldx
      refine wpAnyH_done (by kernel_rfl) ?_ _
      have hF:Below v.heap.size v _∧v.heap.size≤u2.heap.size∧bcs.length=17∧(∀ z∈bcs,z.oneCell'=true)∧aq 58 _ (u2.heap.size) (ao 1 (.slice none 0 0) ⟨#[]⟩ ai ai bcs (.slice fb l.length fd))∧gj w2.heap.size B N (·=u2.heap.size) w _ d bcs∧iW w2.heap.size B N (·=u2.heap.size) w _ l fb:=⟨hS,by omega,HBL.out,HBO.out,RXs,LE,LF⟩
      clear RX RXs hS LE LF
      generalize World.setRow _ _ _=u5 at hF ⊢
      exact TL.out _ _ _ _ _ hF
    ·go_simp
     have RX:aq 58 (u1.alloc (.cells zP0 58)) (u1.heap.size) aB:=by
      have h:=aq.new (u1) 58 aB
      rw [show (u1).heap.size=u1.heap.size by simp] at h
      exact h
     have lX:=RX.lt
     have KC:=cK KC (af _ (.cells zP0 58))
     refine hK.out _ _ (ae hH0 (af _ _)) (fun hH1=>?_)
     clear hK K
     refine rd1 4 rfl (fun K hK=>?_)
     go_simp
     have HAF:=Hd (show Below B w (u1.alloc (.cells zP0 58)) from (ae HV.out hH1).mono hB)
     have hf1:u1.heap.size≤((u1.alloc (.cells zP0 58))).heap.size:=by simp
     refine (HFN.out (u1.alloc (.cells zP0 58)) B N fa fc hln hN (Nat.le_trans hB HAF.out.size) (av.below HAF.out _ HA.out)).mono ?_
     rintro e2 u2 ⟨fb,fd,rfl,hsf,hb2⟩
     have HSF:=Hd hsf
     have hf2:((u1.alloc (.cells zP0 58))).heap.size≤u2.heap.size:=hb2.size
     have KF:=bO.refl ((u1.alloc (.cells zP0 58))).heap.size none u2
     have KC:=cK KC hb2
     have hC:=ae hH1 hb2
     have RX:=RX.then hb2
     have lX:=RX.lt
     refine hK.out _ _ hC (fun hH2=>?_)
     clear hK K hsf hC
     refine rd1 5 rfl (fun K hK=>?_)
     rw [if_pos (by kernel_rfl)]
     refine ff 58 _ rfl (ao 1 (.slice none 0 0) ⟨#[]⟩ ai ai bcs (.slice fb l.length fd)).toArray (by rw [List.map_toArray];exact lr bcs HBL.out fb l.length fd) ?_
     have HPB:=Hd (bl 1 (.slice none 0 0) ⟨#[]⟩ (ics:=ai) (ucs:=ai) (.slice fb l.length fd) rfl rfl HBL.out)
     refine hK.out _ _ hH2 (fun hH3=>?_)
     clear hK K
     simp only [Act.put,List.setIfInBounds_toArray]
     refine rd1 7 rfl (fun K hK=>?_)
     rw [if_pos (by kernel_rfl)]
     refine wp_store_row 58 _ _ rfl (u1.heap.size) (ao 1 (.slice none 0 0) ⟨#[]⟩ ai ai bcs (.slice fb l.length fd)).toArray rfl rfl 58 aB.toArray RX (by rw [List.size_toArray,HPB.out];exact aO) (by show 55=_;rw [List.size_toArray,HPB.out]) (Go.all_oneCell_toArray (cB rfl (bu w 0 0).one (bu w 0 0).one HBO.out rfl)) ?_
     have RXs:=RX.setRow (ao 1 (.slice none 0 0) ⟨#[]⟩ ai ai bcs (.slice fb l.length fd))
     have hS:=below_setRow hH3 (show v.heap.size≤u1.heap.size by omega) (ao 1 (.slice none 0 0) ⟨#[]⟩ ai ai bcs (.slice fb l.length fd)).toArray
     have LE:=ez (X:=(·=u1.heap.size)) (M:=w2.heap.size) HSC.out HAC.out hc2 (eB (g:=u1.heap.size) (new:=(ao 1 (.slice none 0 0) ⟨#[]⟩ ai ai bcs (.slice fb l.length fd)).toArray) KC (by omega)) (by omega) (fun k hk=>by subst hk;omega)
     have LF:=jP (X:=(·=u1.heap.size)) (M:=w2.heap.size) HSF.out HAF.out hf2 (eB (g:=u1.heap.size) (new:=(ao 1 (.slice none 0 0) ⟨#[]⟩ ai ai bcs (.slice fb l.length fd)).toArray) KF (by omega)) (by omega) (fun k hk=>by subst hk;omega)
     refine hK.out _ _ hS (fun hHeldx=>?_)
     clear hK K hHeldx
     refine wpAnyH_done (by kernel_rfl) ?_ _
     have hF:Below v.heap.size v _∧v.heap.size≤u1.heap.size∧bcs.length=17∧(∀ z∈bcs,z.oneCell'=true)∧aq 58 _ (u1.heap.size) (ao 1 (.slice none 0 0) ⟨#[]⟩ ai ai bcs (.slice fb l.length fd))∧gj w2.heap.size B N (·=u1.heap.size) w _ d bcs∧iW w2.heap.size B N (·=u1.heap.size) w _ l fb:=⟨hS,by omega,HBL.out,HBO.out,RXs,LE,LF⟩
     clear RX RXs hS LE LF
     generalize World.setRow _ _ _=u5 at hF ⊢
     exact TL.out _ _ _ _ _ hF
   ·go_simp
    have RX:aq 58 (v.drew.alloc (.cells zP0 58)) (v.heap.size) aB:=by
     have h:=aq.new (v.drew) 58 aB
     rw [show (v.drew).heap.size=v.heap.size by simp] at h
     exact h
    have lX:=RX.lt
    refine hK.out _ _ (ae hHeld (af _ _)) (fun hH0=>?_)
    clear hK K
    refine rd1 1 rfl (fun K hK=>?_)
    go_simp
    have HAC:=Hd (show Below B w (v.drew.alloc (.cells zP0 58)) from (ae HV.out hH0).mono hB)
    have hc1:v.heap.size≤((v.drew.alloc (.cells zP0 58))).heap.size:=hH0.size
    refine (HCD.out (v.drew.alloc (.cells zP0 58)) B N dm hN (Nat.le_trans hB HAC.out.size) (HDM.out.below HAC.out)).mono ?_
    rintro e1 u1 ⟨bcs,rfl,hsc,hb1⟩
    have HSC:=Hd hsc
    have hcp:=hsc.here (hb1.mono (Nat.le_trans hB HAC.out.size))
    have HBL:=Hd (show bcs.length=17 from hcp.len)
    have HBO:=Hd hcp.one
    have hc2:((v.drew.alloc (.cells zP0 58))).heap.size≤u1.heap.size:=hb1.size
    have KC:=bO.refl ((v.drew.alloc (.cells zP0 58))).heap.size none u1
    have hC:=ae hH0 hb1
    have RX:=RX.then hb1
    have lX:=RX.lt
    refine hK.out _ _ hC (fun hH1=>?_)
    clear hK K hcp hsc hC
    refine rd1 4 rfl (fun K hK=>?_)
    go_simp
    have HAF:=Hd (show Below B w u1 from (ae HV.out hH1).mono hB)
    have hf1:u1.heap.size≤(u1).heap.size:=by simp
    refine (HFN.out u1 B N fa fc hln hN (Nat.le_trans hB HAF.out.size) (av.below HAF.out _ HA.out)).mono ?_
    rintro e2 u2 ⟨fb,fd,rfl,hsf,hb2⟩
    have HSF:=Hd hsf
    have hf2:(u1).heap.size≤u2.heap.size:=hb2.size
    have KF:=bO.refl (u1).heap.size none u2
    have KC:=cK KC hb2
    have hC:=ae hH1 hb2
    have RX:=RX.then hb2
    have lX:=RX.lt
    refine hK.out _ _ hC (fun hH2=>?_)
    clear hK K hsf hC
    refine rd1 5 rfl (fun K hK=>?_)
    rw [if_pos (by kernel_rfl)]
    refine ff 58 _ rfl (ao 1 (.slice none 0 0) ⟨#[]⟩ ai ai bcs (.slice fb l.length fd)).toArray (by rw [List.map_toArray];exact lr bcs HBL.out fb l.length fd) ?_
    have HPB:=Hd (bl 1 (.slice none 0 0) ⟨#[]⟩ (ics:=ai) (ucs:=ai) (.slice fb l.length fd) rfl rfl HBL.out)
    refine hK.out _ _ hH2 (fun hH3=>?_)
    clear hK K
    simp only [Act.put,List.setIfInBounds_toArray]
    refine rd1 7 rfl (fun K hK=>?_)
    rw [if_pos (by kernel_rfl)]
    refine wp_store_row 58 _ _ rfl (v.heap.size) (ao 1 (.slice none 0 0) ⟨#[]⟩ ai ai bcs (.slice fb l.length fd)).toArray rfl rfl 58 aB.toArray RX (by rw [List.size_toArray,HPB.out];exact aO) (by show 55=_;rw [List.size_toArray,HPB.out]) (Go.all_oneCell_toArray (cB rfl (bu w 0 0).one (bu w 0 0).one HBO.out rfl)) ?_
    have RXs:=RX.setRow (ao 1 (.slice none 0 0) ⟨#[]⟩ ai ai bcs (.slice fb l.length fd))
    have hS:=below_setRow hH3 (show v.heap.size≤v.heap.size by omega) (ao 1 (.slice none 0 0) ⟨#[]⟩ ai ai bcs (.slice fb l.length fd)).toArray
    have LE:=ez (X:=(·=v.heap.size)) (M:=w2.heap.size) HSC.out HAC.out hc2 (eB (g:=v.heap.size) (new:=(ao 1 (.slice none 0 0) ⟨#[]⟩ ai ai bcs (.slice fb l.length fd)).toArray) KC (by omega)) (by omega) (fun k hk=>by subst hk;omega)
    have LF:=jP (X:=(·=v.heap.size)) (M:=w2.heap.size) HSF.out HAF.out hf2 (eB (g:=v.heap.size) (new:=(ao 1 (.slice none 0 0) ⟨#[]⟩ ai ai bcs (.slice fb l.length fd)).toArray) KF (by omega)) (by omega) (fun k hk=>by subst hk;omega)
    refine hK.out _ _ hS (fun hHeldx=>?_)
    clear hK K hHeldx
    refine wpAnyH_done (by kernel_rfl) ?_ _
    have hF:Below v.heap.size v _∧v.heap.size≤v.heap.size∧bcs.length=17∧(∀ z∈bcs,z.oneCell'=true)∧aq 58 _ (v.heap.size) (ao 1 (.slice none 0 0) ⟨#[]⟩ ai ai bcs (.slice fb l.length fd))∧gj w2.heap.size B N (·=v.heap.size) w _ d bcs∧iW w2.heap.size B N (·=v.heap.size) w _ l fb:=⟨hS,by omega,HBL.out,HBO.out,RXs,LE,LF⟩
    clear RX RXs hS LE LF
    generalize World.setRow _ _ _=u5 at hF ⊢
    exact TL.out _ _ _ _ _ hF
  clear HB7
  rintro u g bcs fb fd ⟨hbu,hgu,hbl,hbo,rx,le,lf⟩
  have HBL:=Hd hbl
  have HBO:=Hd hbo
  have RX:=Hd rx
  have LE:=Hd le
  have LF:=Hd lf
  have HUW:=Hd (ae HV2.out hbu)
  have HU:=Hd (ae HV.out hbu)
  have U5:=Hd (S5.out.then hbu)
  have U6:=Hd (S6.out.then hbu)
  have RZu:=Hd (RZv.out.then hbu)
  have hgl:g<u.heap.size:=RX.out.lt
  have hg5v:=T5.out
  clear hbl hbo rx le lf hbu S5 S6 RZv RGv
  try clear n0 he9
  by_cases hk:e.op=19
  ·have eh:=HEH.out
   have hde:=HDE.out
   have hme:=HME.out
   have hbd:=HBD.out
   have hwe:=HWE.out
   have k0:em[0]?=some (.int .i64 19):=by rw [eh.op,hk]
   have hwe':=gM (hwe.resolve_left (by omega))
   have hel:=eE hwe' (n:=3) (by rw [hk];decide)
   have k15:em[15]?=some (.slice eaa 3 eac):=by rw [eh.args,hel]
   have HPL:=Hd (kp hme hbd (show fy e=true by unfold fy;simp [hk]) (by omega))
   obtain ⟨be,oe,rfl,hbe,hge⟩:=eh.atArgs.get (by intro h;simp [h] at hel)
   obtain ⟨md,hmd⟩:=hde
   obtain ⟨r0,z0,v0⟩:=hge 0 (by omega)
   have Z0:=Hd z0
   have V0:=Hd v0
   have HO0:=Hd v0.one
   have R0LEN:=Hd (show r0.length=17 from v0.len)
   have hr0:=Hd (show (Tryz.prog.info? 34).map (·.size)=some r0.length by rw [R0LEN.out];exact ay)
   obtain ⟨r1,z1,v1⟩:=hge 1 (by omega)
   have Z1:=Hd z1
   have V1:=Hd v1
   have HO1:=Hd v1.one
   have R1LEN:=Hd (show r1.length=17 from v1.len)
   have hr1:=Hd (show (Tryz.prog.info? 34).map (·.size)=some r1.length by rw [R1LEN.out];exact ay)
   obtain ⟨r2,z2,v2⟩:=hge 2 (by omega)
   have Z2:=Hd z2
   have V2:=Hd v2
   have HO2:=Hd v2.one
   have R2LEN:=Hd (show r2.length=17 from v2.len)
   have hr2:=Hd (show (Tryz.prog.info? 34).map (·.size)=some r2.length by rw [R2LEN.out];exact ay)
   have hcon:=Hd (tz (gS (hwe.resolve_left (by omega)) (show 1<e.args.length by omega)))
   have hw0:=Hd (gS (hwe.resolve_left (by omega)) (show 0<e.args.length by omega))
   have HC1:=Hd (cZ md _ (fR hmd 1 (by omega)))
   have HC2:=Hd (cZ md _ (fR hmd 2 (by omega)))
   have HZ0:=Hd (show aj w be oe r0 by rw [Nat.zero_mul,Nat.add_zero] at z0;exact z0)
   have HZ1:=Hd (show aj w be (oe+17) r1 by rw [Nat.one_mul] at z1;exact z1)
   clear z0 z1 z2 v0 v1 v2 hmd
   have HBE:=Hd hbe
   clear hge hbe hwe'
   clear eh hme hbd hwe k0g
   have LEu:=Hd (show gj w2.heap.size B N (fun k=>k=g∨k=u.heap.size) w u d bcs from LE.out.more (Nat.le_refl _))
   have LFu:=Hd (show iW w2.heap.size B N (fun k=>k=g∨k=u.heap.size) w u l fb from LF.out.more (Nat.le_refl _))
   have hg5u:=Hd U5.out.lt
   have U5b:=Hd (show aq 34 (u.alloc (.cells em.toArray 34)) g5 em from U5.out.alloc _)
   have U8b:=Hd (show aq 34 (u.alloc (.cells em.toArray 34)) u.heap.size em from aq.new u 34 em)
   have q0:=U5b.out.cell k0
   clear LE LF U6
   have qm:=(RX.out.alloc (.cells em.toArray 34)).cell (pE 1 (.slice none 0 0) ⟨#[]⟩ ai ai bcs (.slice fb l.length fd))
   have qmf:=(RX.out.alloc (.cells em.toArray 34)).frozen 0
   have q15:=U5b.out.cell k15
   have hgg5:g5≠g:=by omega
   have RXa:=Hd (show aq 58 ((u.setCell ⟨g,0,none⟩ (.int .i64 2)).alloc (.cells em.toArray 34)) g (ao 2 (.slice none 0 0) ⟨#[]⟩ ai ai bcs (.slice fb l.length fd)) from (RX.out.set 0 _).alloc _)
   have R5a:=Hd (show aq 34 ((u.setCell ⟨g,0,none⟩ (.int .i64 2)).alloc (.cells em.toArray 34)) g5 em from (U5.out.setOther (by omega) _ _).alloc _)
   have R8a:=Hd (show aq 34 ((u.setCell ⟨g,0,none⟩ (.int .i64 2)).alloc (.cells em.toArray 34)) u.heap.size em from by
    have h:=aq.new (u.setCell ⟨g,0,none⟩ (.int .i64 2)) 34 em
    rw [show (u.setCell ⟨g,0,none⟩ (.int .i64 2)).heap.size=u.heap.size by simp] at h
    exact h)
   have RZa:=Hd (show aq 58 ((u.setCell ⟨g,0,none⟩ (.int .i64 2)).alloc (.cells em.toArray 34)) (w.heap.size+1) aB from (RZu.out.setOther (by omega) _ _).alloc _)
   have HBa:=Hd (show Below w.heap.size w ((u.setCell ⟨g,0,none⟩ (.int .i64 2)).alloc (.cells em.toArray 34)) from ae (bD HU.out (by omega) _) (af _ _))
   have HWa:=Hd (show Below w2.heap.size w2 ((u.setCell ⟨g,0,none⟩ (.int .i64 2)).alloc (.cells em.toArray 34)) from ae (bD HUW.out (by omega) _) (af _ _))
   have LEa:=Hd (show gj w2.heap.size B N (fun k=>k=g∨k=u.heap.size) w ((u.setCell ⟨g,0,none⟩ (.int .i64 2)).alloc (.cells em.toArray 34)) d bcs from (LEu.out.cell (.inl rfl)).below (af _ _))
   have LFa:=Hd (show iW w2.heap.size B N (fun k=>k=g∨k=u.heap.size) w ((u.setCell ⟨g,0,none⟩ (.int .i64 2)).alloc (.cells em.toArray 34)) l fb from (LFu.out.cell (.inl rfl)).below (af _ _))
   have qa0:=R5a.out.cell k0
   have qa15:=R5a.out.cell k15
   go_wp2_with (first
    | ((with_reducible show wpList _ _ _ (⟨some 38,_,_,_,_,_⟩::_) _ _);refine wpList_load_mid rfl 34 _ rfl g5 0 rfl em _ U5.out.range Tryz.underlying34 rfl hle.out ?_)
    | ((with_reducible show wpList _ _ _ (⟨none,.store 34 (.tmp 8) (.tmp 38),_,_,_,_⟩::_) _ _);refine ak rfl 34 _ _ rfl ai.toArray em.toArray rfl rfl hle2.out hle3.out HOA.out ?_)
    | ((with_reducible show wpList _ _ _ (⟨some 63,_,_,_,_,_⟩::_) _ _);refine wpList_load_mid rfl 34 _ rfl be (oe+17) rfl r1 _ (HZ1.out.below (HBa.out.mono hB) HBE.out).range Tryz.underlying34 rfl hr1.out ?_))
   obtain ⟨u4,hu4⟩:∃ u4,u4=((u.setCell ⟨g,0,none⟩ (.int .i64 2)).alloc (.cells em.toArray 34)):=⟨_,rfl⟩
   rw [← hu4] at RXa R5a R8a RZa HBa HWa LEa LFa ⊢
   clear hu4 q0 qm qmf q15 qa0 qa15 U5b U8b
   refine (hcon.out u4 B N r1 hN (Nat.le_trans hB HBa.out.size) (V1.out.below (HBa.out.mono hB))).mono ?_
   rintro e5 v5 ⟨rfl,hb5⟩
   have HB5:=Hd (ae HBa.out hb5)
   have HW5:=Hd (ae HWa.out hb5)
   have RX5:=Hd (RXa.out.then hb5)
   have R55:=Hd (R5a.out.then hb5)
   have R85:=Hd (R8a.out.then hb5)
   have RZ5:=Hd (RZa.out.then hb5)
   have LE5:=Hd (LEa.out.below hb5)
   have LF5:=Hd (LFa.out.below hb5)
   clear hb5
   obtain ⟨kc,hkc⟩:∃ kc,kD 47 e.args[1]=kc:=⟨_,rfl⟩
   have HKC:=Hd hkc
   rw [hkc]
   clear hkc
   cases kc
   ·have HN:=Hd (show cy x=none by rw [HPL.out,HKC.out];rfl)
    go_wp2_with ((with_reducible show wpList _ _ _ (⟨none,.store 58 (.tmp 2) (.tmp 66),_,_,_,_⟩::_) _ _);refine aD rfl 58 _ _ rfl (w.heap.size+1) 0 aB rfl rfl 58 aB aB RZ5.out aO rfl (Nat.le_refl 55) (dM w 0 0).one ?_)
    refine bodyPost_ret (ap rfl _ _ (w.heap.size+1) 58 aB.toArray (0,0) _ rfl (RZ5.out.setRow aB) Tryz.underlying58 rfl aO) rfl ?_
    exact dI.no h0 HN.out (below_setRow HB5.out (by omega) _)
   ·have HPM:=Hd (show cy x=(cQ (dZ 47 e.args[0])).map fun l=>⟨2,l,e.name,e.args[1],e.args[2],d⟩ by rw [HPL.out,HKC.out,if_neg (by decide),hk];rfl)
    have s15:=R55.out.cell k15
    go_wp2_with (first
     | ((with_reducible show wpList _ _ _ (⟨some 70,_,_,_,_,_⟩::_) _ _);refine wpList_load_mid rfl 34 _ rfl be oe rfl r0 _ (HZ0.out.below (HB5.out.mono hB) HBE.out).range Tryz.underlying34 rfl hr0.out ?_)
     | ((with_reducible show wpList _ _ _ (⟨none,.store 34 (.tmp 8) (.tmp 70),_,_,_,_⟩::_) _ _);refine wpList_store_row rfl 34 _ _ rfl u.heap.size r0.toArray rfl rfl 34 em.toArray R85.out (by rw [List.size_toArray];exact hr0.out) (by rw [List.size_toArray,List.size_toArray,ELEN.out,R0LEN.out]) (Go.all_oneCell_toArray HO0.out) ?_))
    obtain ⟨v6,hv6⟩:∃ v6,v6=(v5.setRow u.heap.size r0.toArray):=⟨_,rfl⟩
    have RX6:=Hd (show aq 58 v6 g (ao 2 (.slice none 0 0) ⟨#[]⟩ ai ai bcs (.slice fb l.length fd)) by rw [hv6];exact RX5.out.setRowOther (by omega) _)
    have R56:=Hd (show aq 34 v6 g5 em by rw [hv6];exact R55.out.setRowOther (by have:=hg5u.out;omega) _)
    have R86:=Hd (show aq 34 v6 u.heap.size r0 by rw [hv6];exact R85.out.setRow _)
    have RZ6:=Hd (show aq 58 v6 (w.heap.size+1) aB by rw [hv6];exact RZ5.out.setRowOther (by omega) _)
    have HB6:=Hd (show Below w.heap.size w v6 by rw [hv6];exact below_setRow HB5.out (by omega) _)
    have HW6:=Hd (show Below w2.heap.size w2 v6 by rw [hv6];exact below_setRow HW5.out (by omega) _)
    have LE6:=Hd (show gj w2.heap.size B N (fun k=>k=g∨k=u.heap.size) w v6 d bcs by rw [hv6];exact LE5.out.row (.inr rfl))
    have LF6:=Hd (show iW w2.heap.size B N (fun k=>k=g∨k=u.heap.size) w v6 l fb by rw [hv6];exact LF5.out.row (.inr rfl))
    rw [← hv6]
    clear hv6 s15
    have hg6x:=RX6.out.lt
    have hb6x:=R86.out.lt
    have hHD:aq 34 v6.drew g5 em∧Below w2.heap.size w2 v6.drew:=⟨R56.out.drew,ae HW6.out (cG v6)⟩
    have hDB:=ae HB6.out (cG v6)
    refine wp_region_held_drew (S:=fun z=>aq 34 z g5 em∧Below w2.heap.size w2 z) (by kernel_rfl) hHD (fun hHeld=>?_)
    refine' tk 0 (.pointer (some ⟨g5,1,none⟩)) rfl rfl (.inl ⟨by rfl,fun u hu=>(by go_simp)⟩) hHeld ?_
    simp only [sq1,sq0]
    refine' tk 1 (.string e.name) rfl rfl (.inl ⟨by rfl,fun u hu=>(by have hc:=hu.1.cell k1;go_simp)⟩) hHeld ?_
    simp only [sq1,sq0]
    refine' tk 2 (.pointer (some ⟨g5,15,none⟩)) rfl rfl (.inl ⟨by rfl,fun u hu=>(by go_simp)⟩) hHeld ?_
    simp only [sq1,sq0]
    refine' tk 3 (.slice (some ⟨be,oe,none⟩) 3 eac) rfl rfl (.inl ⟨by rfl,fun u hu=>(by have hc:=hu.1.cell k15;go_simp)⟩) hHeld ?_
    simp only [sq1,sq0]
    refine' tk 4 (.pointer (some ⟨be,oe+17,none⟩)) rfl rfl (.inl ⟨by rfl,fun u hu=>(by go_simp)⟩) hHeld ?_
    simp only [sq1,sq0]
    refine' tk 5 (.agg r1.toArray) rfl rfl (yieldsIf_load_mid (by kernel_rfl) 34 _ rfl (be) (oe+17) rfl r1 _ (fun u hu=>(HZ1.out.below ((ae H2.out hu.2).mono hB) HBE.out).range) Tryz.underlying34 rfl hr1.out) hHeld ?_
    simp only [sq1,sq0]
    refine' tk 7 (.pointer (some ⟨g5,15,none⟩)) rfl rfl (.inl ⟨by rfl,fun u hu=>(by go_simp)⟩) hHeld ?_
    simp only [sq1,sq0]
    refine' tk 8 (.slice (some ⟨be,oe,none⟩) 3 eac) rfl rfl (.inl ⟨by rfl,fun u hu=>(by have hc:=hu.1.cell k15;go_simp)⟩) hHeld ?_
    simp only [sq1,sq0]
    refine' tk 9 (.pointer (some ⟨be,oe+34,none⟩)) rfl rfl (.inl ⟨by rfl,fun u hu=>(by go_simp)⟩) hHeld ?_
    simp only [sq1,sq0]
    refine' tk 10 (.agg r2.toArray) rfl rfl (yieldsIf_load_mid (by kernel_rfl) 34 _ rfl (be) (oe+34) rfl r2 _ (fun u hu=>(Z2.out.below ((ae H2.out hu.2).mono hB) HBE.out).range) Tryz.underlying34 rfl hr2.out) hHeld ?_
    simp only [sq1,sq0]
    refine' tk 12 (.pointer (some ⟨g,2,none⟩)) rfl rfl (.inl ⟨by rfl,fun u hu=>(by go_simp)⟩) hHeld ?_
    simp only [sq1,sq0]
    refine rd1 6 rfl (fun K hK=>?_)
    go_simp
    have hB1:=Hd (show Below B w v6.drew from hDB.mono hB)
    refine (HC1.out v6.drew B N r1 hN (Nat.le_trans hB hDB.size) (V1.out.below hB1.out)).mono ?_
    rintro e8 x1 ⟨ic,rfl,hsi,hbi⟩
    have hci:=hsi.here (hbi.mono (Nat.le_trans hB hDB.size))
    have HSI:=Hd hsi
    have ILEN:=Hd (show ic.length=17 from hci.len)
    have HIO:=Hd hci.one
    have hix:v6.drew.heap.size≤x1.heap.size:=hbi.size
    have KI:=bO.refl v6.drew.heap.size none x1
    have hDB1:=ae hDB hbi
    have X1:=(RX6.out.drew).then hbi
    have Y1:=(R86.out.drew).then hbi
    have Q1:=(RZ6.out.drew).then hbi
    have L1:=(LE6.out.below (cG v6)).below hbi
    have M1:=(LF6.out.below (cG v6)).below hbi
    have hs1:aq 34 x1 g5 em∧Below w2.heap.size w2 x1:=⟨hHeld.1.then hbi,ae hHeld.2 hbi⟩
    refine hK.out _ _ hs1 (fun hHeldx=>?_)
    clear hK K hHeldx hsi hci hbi
    refine rd1 11 rfl (fun K hK=>?_)
    go_simp
    have hB2:=Hd (show Below B w x1 from hDB1.mono hB)
    refine (HC2.out x1 B N r2 hN (Nat.le_trans hB hDB1.size) (V2.out.below hB2.out)).mono ?_
    rintro e9 x2 ⟨uc,rfl,hsu,hbu⟩
    have hcu:=hsu.here (hbu.mono (Nat.le_trans hB hDB1.size))
    have HSU:=Hd hsu
    have ULEN:=Hd (show uc.length=17 from hcu.len)
    have HUO:=Hd hcu.one
    have hux:x1.heap.size≤x2.heap.size:=hbu.size
    have KU:=bO.refl x1.heap.size none x2
    have KI:=cK KI hbu
    have hDB2:=ae hDB1 hbu
    have X2:=X1.then hbu
    have Y2:=Y1.then hbu
    have Q2:=Q1.then hbu
    have L2:=L1.below hbu
    have M2:=M1.below hbu
    have hs2:aq 34 x2 g5 em∧Below w2.heap.size w2 x2:=⟨hs1.1.then hbu,ae hs1.2 hbu⟩
    refine hK.out _ _ hs2 (fun hHeldx=>?_)
    clear hK K hHeldx hsu hcu hbu X1 Y1 Q1 L1 M1 hs1
    have hli:=Hd (show (Tryz.prog.info? 34).map (·.size)=some ic.length by rw [ILEN.out];exact ay)
    have hlu:=Hd (show (Tryz.prog.info? 34).map (·.size)=some uc.length by rw [ULEN.out];exact ay)
    have lvi:gj w2.heap.size B N (fun k=>k=g∨k=u.heap.size) w x2 e.args[1] ic:=ez HSI.out hB1.out hix KI (by have h:=HW6.out.size;have h2:v6.drew.heap.size=v6.heap.size:=rfl;omega) (fun k hk=>by have h2:v6.drew.heap.size=v6.heap.size:=rfl;rcases hk with rfl | rfl<;>omega)
    have lvu:gj w2.heap.size B N (fun k=>k=g∨k=u.heap.size) w x2 e.args[2] uc:=ez HSU.out hB2.out hux KU (by have h:=HW6.out.size;have h2:v6.drew.heap.size=v6.heap.size:=rfl;omega) (fun k hk=>by have h2:v6.drew.heap.size=v6.heap.size:=rfl;rcases hk with rfl | rfl<;>omega)
    have s2:=X2.cell (pD 2 (.slice none 0 0) ⟨#[]⟩ ai ai bcs (.slice fb l.length fd))
    have sf2:=X2.frozen 2
    refine rd1 13 rfl (fun K hK=>?_)
    go_simp
    have hs3:aq 34 (x2.setCell ⟨g,2,none⟩ (.string e.name)) g5 em∧Below w2.heap.size w2 (x2.setCell ⟨g,2,none⟩ (.string e.name)):=⟨hs2.1.setOther (by omega) _ _,bD hs2.2 (by omega) _⟩
    have X3:aq 58 _ g (ao 2 (.slice none 0 0) e.name ai ai bcs (.slice fb l.length fd)):=X2.set 2 (.string e.name)
    have Y3:=Y2.setOther (b':=g) (by omega) 2 (.string e.name)
    have Q3:=Q2.setOther (b':=g) (by omega) 2 (.string e.name)
    have L3:=L2.cell (j:=2) (v:=.string e.name) (.inl rfl)
    have M3:=M2.cell (j:=2) (v:=.string e.name) (.inl rfl)
    have I3:=lvi.cell (j:=2) (v:=.string e.name) (.inl rfl)
    have J3:=lvu.cell (j:=2) (v:=.string e.name) (.inl rfl)
    have hDB3:=bD (j:=2) hDB2 (show w.heap.size≤g by omega) (.string e.name)
    refine hK.out _ _ hs3 (fun hHeldx=>?_)
    clear hK K s2 sf2 X2 Y2 Q2 L2 M2 lvi lvu hs2 hDB2
    refine' tk 14 (.pointer (some ⟨g,3,none⟩)) rfl rfl (.inl ⟨by rfl,fun u hu=>(by go_simp)⟩) hHeldx ?_
    simp only [sq1,sq0]
    refine rd1 15 rfl (fun K hK=>?_)
    rw [if_pos (by kernel_rfl)]
    refine bn 34 _ _ rfl g 3 ic rfl rfl 58 (ao 2 (.slice none 0 0) e.name ai ai bcs (.slice fb l.length fd)) (ao 2 (.slice none 0 0) e.name ic ai bcs (.slice fb l.length fd)) X3 hli.out (g8 _ _ _ _ rfl ILEN.out) (by rw [ILEN.out,bl _ _ _ _ rfl rfl HBL.out];exact Nat.le_of_ble_eq_true rfl) HIO.out ?_
    have hs4:=And.intro (hs3.1.setRowOther (b':=g) (by omega) ((ao 2 (.slice none 0 0) e.name ic ai bcs (.slice fb l.length fd)):List Value).toArray) (below_setRow hs3.2 (show w2.heap.size≤g by omega) ((ao 2 (.slice none 0 0) e.name ic ai bcs (.slice fb l.length fd)):List Value).toArray)
    have X4:=X3.setRow (ao 2 (.slice none 0 0) e.name ic ai bcs (.slice fb l.length fd))
    have Y4:=Y3.setRowOther (b':=g) (by omega) ((ao 2 (.slice none 0 0) e.name ic ai bcs (.slice fb l.length fd)):List Value).toArray
    have Q4:=Q3.setRowOther (b':=g) (by omega) ((ao 2 (.slice none 0 0) e.name ic ai bcs (.slice fb l.length fd)):List Value).toArray
    have L4:=L3.row (new:=((ao 2 (.slice none 0 0) e.name ic ai bcs (.slice fb l.length fd)):List Value).toArray) (.inl rfl)
    have M4:=M3.row (new:=((ao 2 (.slice none 0 0) e.name ic ai bcs (.slice fb l.length fd)):List Value).toArray) (.inl rfl)
    have I4:=I3.row (new:=((ao 2 (.slice none 0 0) e.name ic ai bcs (.slice fb l.length fd)):List Value).toArray) (.inl rfl)
    have J4:=J3.row (new:=((ao 2 (.slice none 0 0) e.name ic ai bcs (.slice fb l.length fd)):List Value).toArray) (.inl rfl)
    have hDB4:=below_setRow hDB3 (show w.heap.size≤g by omega) ((ao 2 (.slice none 0 0) e.name ic ai bcs (.slice fb l.length fd)):List Value).toArray
    refine hK.out _ _ hs4 (fun hHeldx=>?_)
    clear hK K X3 Y3 Q3 L3 M3 I3 J3 hs3 hDB3
    refine' tk 16 (.pointer (some ⟨g,20,none⟩)) rfl rfl (.inl ⟨by rfl,fun u hu=>(by go_simp)⟩) hHeldx ?_
    simp only [sq1,sq0]
    refine rd1 17 rfl (fun K hK=>?_)
    rw [if_pos (by kernel_rfl)]
    refine bn 34 _ _ rfl g 20 uc rfl rfl 58 (ao 2 (.slice none 0 0) e.name ic ai bcs (.slice fb l.length fd)) (ao 2 (.slice none 0 0) e.name ic uc bcs (.slice fb l.length fd)) X4 hlu.out (i6 _ _ _ _ ILEN.out rfl ULEN.out) (by rw [ULEN.out,bl _ _ _ _ ILEN.out rfl HBL.out];exact Nat.le_of_ble_eq_true rfl) HUO.out ?_
    have hs5:=And.intro (hs4.1.setRowOther (b':=g) (by omega) ((ao 2 (.slice none 0 0) e.name ic uc bcs (.slice fb l.length fd)):List Value).toArray) (below_setRow hs4.2 (show w2.heap.size≤g by omega) ((ao 2 (.slice none 0 0) e.name ic uc bcs (.slice fb l.length fd)):List Value).toArray)
    have X5:=X4.setRow (ao 2 (.slice none 0 0) e.name ic uc bcs (.slice fb l.length fd))
    have Y5:=Y4.setRowOther (b':=g) (by omega) ((ao 2 (.slice none 0 0) e.name ic uc bcs (.slice fb l.length fd)):List Value).toArray
    have Q5:=Q4.setRowOther (b':=g) (by omega) ((ao 2 (.slice none 0 0) e.name ic uc bcs (.slice fb l.length fd)):List Value).toArray
    have L5:=L4.row (new:=((ao 2 (.slice none 0 0) e.name ic uc bcs (.slice fb l.length fd)):List Value).toArray) (.inl rfl)
    have M5:=M4.row (new:=((ao 2 (.slice none 0 0) e.name ic uc bcs (.slice fb l.length fd)):List Value).toArray) (.inl rfl)
    have I5:=I4.row (new:=((ao 2 (.slice none 0 0) e.name ic uc bcs (.slice fb l.length fd)):List Value).toArray) (.inl rfl)
    have J5:=J4.row (new:=((ao 2 (.slice none 0 0) e.name ic uc bcs (.slice fb l.length fd)):List Value).toArray) (.inl rfl)
    have hDB5:=below_setRow hDB4 (show w.heap.size≤g by omega) ((ao 2 (.slice none 0 0) e.name ic uc bcs (.slice fb l.length fd)):List Value).toArray
    refine hK.out _ _ hs5 (fun hHeldx=>?_)
    clear hK K X4 Y4 Q4 L4 M4 I4 J4 hs4 hDB4
    refine wpAnyH_done (by kernel_rfl) ?_ _
    have hF:=And.intro X5 (And.intro Y5 (And.intro Q5 (And.intro L5 (And.intro M5 (And.intro I5 (And.intro J5 hDB5))))))
    clear X5 Y5 Q5 L5 M5 I5 J5 hDB5 hs5 hHeldx hHeld hHD KI KU hDB hDB1
    generalize World.setRow _ _ _=z at hF ⊢
    obtain ⟨x5,y5,q5,l5,m5,i5,j5,d5⟩:=hF
    have XZ:=Hd x5
    have YZ:=Hd y5
    have QZ:=Hd q5
    have LEz:=Hd l5
    have LFz:=Hd m5
    have LI:=Hd i5
    have LJ:=Hd j5
    have HBz:=Hd d5
    clear x5 y5 q5 l5 m5 i5 j5 d5
    go_wp2_with ((with_reducible show wpList _ _ _ (⟨some 87,_,_,_,_,_⟩::_) _ _);refine wpList_load_mid rfl 34 _ rfl u.heap.size 0 rfl r0 _ YZ.out.range Tryz.underlying34 rfl hr0.out ?_)
    refine (n9 hw0.out z B N r0 hN (Nat.le_trans hB HBz.out.size) (V0.out.below (HBz.out.mono hB))).mono ?_
    rintro e7 v7 ⟨sv,sl,k7,rfl,HO7,HS7,hb7⟩
    have HB7:=Hd (ae HBz.out hb7)
    have RX7:=Hd (XZ.out.then hb7)
    have RZ7:=Hd (QZ.out.then hb7)
    have hgw:=Hd (show g<z.heap.size from XZ.out.lt)
    have LE7:=Hd (LEz.out.below hb7)
    have LF7:=Hd (LFz.out.below hb7)
    have LI7:=Hd (LI.out.below hb7)
    have LJ7:=Hd (LJ.out.below hb7)
    clear hb7
    obtain ⟨ad,cp,rfl,hsafe⟩:=jH HO7.out (Nat.le_refl _)
    have HSF:=Hd hsafe
    have RX8:=Hd (show aq 58 (v7.setCell ⟨g,1,none⟩ (.slice ad sl.length cp)) g (ao 2 (.slice ad sl.length cp) e.name ic uc bcs (.slice fb l.length fd)) from RX7.out.set 1 _)
    have RZ8:=Hd (show aq 58 (v7.setCell ⟨g,1,none⟩ (.slice ad sl.length cp)) (w.heap.size+1) aB from RZ7.out.setOther (by omega) _ _)
    have HB8:=Hd (show Below w.heap.size w (v7.setCell ⟨g,1,none⟩ (.slice ad sl.length cp)) from bD HB7.out (by omega) _)
    have t1:=RX7.out.cell (jK 2 (.slice none 0 0) e.name ic uc bcs (.slice fb l.length fd))
    have tf1:=RX7.out.frozen 1
    clear hsafe HO7
    cases k7
    ·have HN:=Hd (show cy x=none by rw [HPM.out,HS7.out];rfl)
     go_wp2_with ((with_reducible show wpList _ _ _ (⟨none,.store 58 (.tmp 2) (.tmp 94),_,_,_,_⟩::_) _ _);refine aD rfl 58 _ _ rfl (w.heap.size+1) 0 aB rfl rfl 58 aB aB RZ8.out aO rfl (Nat.le_refl 55) (dM w 0 0).one ?_)
     refine bodyPost_ret (ap rfl _ _ (w.heap.size+1) 58 aB.toArray (0,0) _ rfl (RZ8.out.setRow aB) Tryz.underlying58 rfl aO) rfl ?_
     exact dI.no h0 HN.out (below_setRow HB8.out (by omega) _)
    ·have hok:cQ (dZ 47 e.args[0])=some sl:=by rw [HS7.out];rfl
     have HL48:=Hd (gr hok)
     have HN:=Hd (show cy x=some ⟨2,sl,e.name,e.args[1],e.args[2],d⟩ by rw [HPM.out,hok];rfl)
     have hpl:((ao 2 (.slice ad sl.length cp) e.name ic uc bcs (.slice fb l.length fd)):List Value).length=55:=bl _ _ _ _ ILEN.out ULEN.out HBL.out
     have hp1:=Hd (show (Tryz.prog.info? 58).map (·.size)=some ((ao 2 (.slice ad sl.length cp) e.name ic uc bcs (.slice fb l.length fd)):List Value).length by rw [hpl];exact aO)
     have hp2:=Hd (show (Tryz.prog.info? 58).map (·.size)=some ((ao 2 (.slice ad sl.length cp) e.name ic uc bcs (.slice fb l.length fd)):List Value).toArray.size by rw [List.size_toArray,hpl];exact aO)
     have hp3:=Hd (show aB.toArray.size=((ao 2 (.slice ad sl.length cp) e.name ic uc bcs (.slice fb l.length fd)):List Value).toArray.size by show 55=_;rw [List.size_toArray,hpl])
     have hp4:=Hd (show ((ao 2 (.slice ad sl.length cp) e.name ic uc bcs (.slice fb l.length fd)):List Value).toArray.all (·.oneCell')=true from Go.all_oneCell_toArray (cB rfl HIO.out HUO.out HBO.out rfl))
     clear hpl hok
     go_wp2_with (first
      | ((with_reducible show wpList _ _ _ (⟨some 95,_,_,_,_,_⟩::_) _ _);refine wpList_load_mid rfl 58 _ rfl g 0 rfl (ao 2 (.slice ad sl.length cp) e.name ic uc bcs (.slice fb l.length fd)) _ RX8.out.range Tryz.underlying58 rfl hp1.out ?_)
      | ((with_reducible show wpList _ _ _ (⟨none,.store 58 (.tmp 2) (.tmp 95),_,_,_,_⟩::_) _ _);refine wpList_store_row rfl 58 _ _ rfl (w.heap.size+1) ((ao 2 (.slice ad sl.length cp) e.name ic uc bcs (.slice fb l.length fd)):List Value).toArray rfl rfl 58 aB.toArray RZ8.out hp2.out hp3.out hp4.out ?_))
     refine bodyPost_ret (ap rfl _ _ (w.heap.size+1) 58 ((ao 2 (.slice ad sl.length cp) e.name ic uc bcs (.slice fb l.length fd)):List Value).toArray (0,0) _ rfl (RZ8.out.setRow (ao 2 (.slice ad sl.length cp) e.name ic uc bcs (.slice fb l.length fd))) Tryz.underlying58 rfl hp2.out) rfl ?_
     have HB9:=Hd (show Below w.heap.size w ((v7.setCell ⟨g,1,none⟩ (.slice ad sl.length cp)).setRow (w.heap.size+1) ((ao 2 (.slice ad sl.length cp) e.name ic uc bcs (.slice fb l.length fd)):List Value).toArray) from below_setRow HB8.out (by omega) _)
     have HB9':=Hd (HB9.out.mono hB)
     refine dI.yes h0 HN.out ⟨ad,cp,_,_,_,fb,fd,rfl,HL48.out,hen,hln,?_,?_,?_,?_,?_⟩ HB9.out
     ·refine HSF.out _ ⟨by rw [setRow_size];simp,fun k h1 _ _=>?_⟩
      have hq:=hgw.out
      rw [setRow_other _ _ _ _ (by omega),heap_setCell_other _ _ _ _ (by simp;omega)]
     ·exact ((LI7.out.cell (.inl rfl)).lowRow hwz).here HB9'.out
     ·exact ((LJ7.out.cell (.inl rfl)).lowRow hwz).here HB9'.out
     ·exact ((LE7.out.cell (.inl rfl)).lowRow hwz).here HB9'.out
     ·exact ((LF7.out.cell (.inl rfl)).lowRow hwz).here HB9'.out
  by_cases hk2:e.op=20
  ·have hka:=hk2
   clear hk
   have hk:=hka
   clear hka hk2
   by_cases ha:(ej e 3).op=30
   ·have eh:=HEH.out
    have hde:=HDE.out
    have hme:=HME.out
    have hbd:=HBD.out
    have hwe:=HWE.out
    have k0:em[0]?=some (.int .i64 20):=by rw [eh.op,hk]
    have hwe':=gM (hwe.resolve_left (by omega))
    have hel:=eE hwe' (n:=4) (by rw [hk];decide)
    have k15:em[15]?=some (.slice eaa 4 eac):=by rw [eh.args,hel]
    rw [bU (by omega:3<e.args.length)] at ha
    have HPL:=Hd (kp hme hbd (show fy e=true by unfold fy;rw [bU (by omega:3<e.args.length)];simp [hk,ha]) (by omega))
    obtain ⟨be,oe,rfl,hbe,hge⟩:=eh.atArgs.get (by intro h;simp [h] at hel)
    obtain ⟨md,hmd⟩:=hde
    obtain ⟨r0,z0,v0⟩:=hge 0 (by omega)
    have Z0:=Hd z0
    have V0:=Hd v0
    have HO0:=Hd v0.one
    have R0LEN:=Hd (show r0.length=17 from v0.len)
    have hr0:=Hd (show (Tryz.prog.info? 34).map (·.size)=some r0.length by rw [R0LEN.out];exact ay)
    obtain ⟨r1,z1,v1⟩:=hge 1 (by omega)
    have Z1:=Hd z1
    have V1:=Hd v1
    have HO1:=Hd v1.one
    have R1LEN:=Hd (show r1.length=17 from v1.len)
    have hr1:=Hd (show (Tryz.prog.info? 34).map (·.size)=some r1.length by rw [R1LEN.out];exact ay)
    obtain ⟨r2,z2,v2⟩:=hge 2 (by omega)
    have Z2:=Hd z2
    have V2:=Hd v2
    have HO2:=Hd v2.one
    have R2LEN:=Hd (show r2.length=17 from v2.len)
    have hr2:=Hd (show (Tryz.prog.info? 34).map (·.size)=some r2.length by rw [R2LEN.out];exact ay)
    have hcon:=Hd (tz (gS (hwe.resolve_left (by omega)) (show 1<e.args.length by omega)))
    have hw0:=Hd (gS (hwe.resolve_left (by omega)) (show 0<e.args.length by omega))
    have HC1:=Hd (cZ md _ (fR hmd 1 (by omega)))
    have HC2:=Hd (cZ md _ (fR hmd 2 (by omega)))
    have HZ0:=Hd (show aj w be oe r0 by rw [Nat.zero_mul,Nat.add_zero] at z0;exact z0)
    have HZ1:=Hd (show aj w be (oe+17) r1 by rw [Nat.one_mul] at z1;exact z1)
    clear z0 z1 z2 v0 v1 v2 hmd
    obtain ⟨r3,z3,v3⟩:=hge 3 (by omega)
    obtain ⟨_,_,_,_,_,vh3⟩:=v3.has
    have Z3:=Hd z3
    have K30:=Hd vh3.op
    clear z3 v3 vh3
    have HBE:=Hd hbe
    clear hge hbe hwe'
    clear eh hme hbd hwe k0g
    have LEu:=Hd (show gj w2.heap.size B N (fun k=>k=g∨k=u.heap.size) w u d bcs from LE.out.more (Nat.le_refl _))
    have LFu:=Hd (show iW w2.heap.size B N (fun k=>k=g∨k=u.heap.size) w u l fb from LF.out.more (Nat.le_refl _))
    have hg5u:=Hd U5.out.lt
    have U5b:=Hd (show aq 34 (u.alloc (.cells em.toArray 34)) g5 em from U5.out.alloc _)
    have U8b:=Hd (show aq 34 (u.alloc (.cells em.toArray 34)) u.heap.size em from aq.new u 34 em)
    have q0:=U5b.out.cell k0
    clear LE LF U6
    have qm:=(RX.out.alloc (.cells em.toArray 34)).cell (pE 1 (.slice none 0 0) ⟨#[]⟩ ai ai bcs (.slice fb l.length fd))
    have qmf:=(RX.out.alloc (.cells em.toArray 34)).frozen 0
    have q15:=U5b.out.cell k15
    have hgg5:g5≠g:=by omega
    have RXa:=Hd (show aq 58 (((u.setCell ⟨g,0,none⟩ (.int .i64 2)).setCell ⟨g,0,none⟩ (.int .i64 3)).alloc (.cells em.toArray 34)) g (ao 3 (.slice none 0 0) ⟨#[]⟩ ai ai bcs (.slice fb l.length fd)) from ((RX.out.set 0 _).set 0 _).alloc _)
    have R5a:=Hd (show aq 34 (((u.setCell ⟨g,0,none⟩ (.int .i64 2)).setCell ⟨g,0,none⟩ (.int .i64 3)).alloc (.cells em.toArray 34)) g5 em from ((U5.out.setOther (by omega) _ _).setOther (by omega) _ _).alloc _)
    have R8a:=Hd (show aq 34 (((u.setCell ⟨g,0,none⟩ (.int .i64 2)).setCell ⟨g,0,none⟩ (.int .i64 3)).alloc (.cells em.toArray 34)) u.heap.size em from by
     have h:=aq.new ((u.setCell ⟨g,0,none⟩ (.int .i64 2)).setCell ⟨g,0,none⟩ (.int .i64 3)) 34 em
     rw [show ((u.setCell ⟨g,0,none⟩ (.int .i64 2)).setCell ⟨g,0,none⟩ (.int .i64 3)).heap.size=u.heap.size by simp] at h
     exact h)
    have RZa:=Hd (show aq 58 (((u.setCell ⟨g,0,none⟩ (.int .i64 2)).setCell ⟨g,0,none⟩ (.int .i64 3)).alloc (.cells em.toArray 34)) (w.heap.size+1) aB from ((RZu.out.setOther (by omega) _ _).setOther (by omega) _ _).alloc _)
    have HBa:=Hd (show Below w.heap.size w (((u.setCell ⟨g,0,none⟩ (.int .i64 2)).setCell ⟨g,0,none⟩ (.int .i64 3)).alloc (.cells em.toArray 34)) from ae (bD (bD HU.out (by omega) _) (by omega) _) (af _ _))
    have HWa:=Hd (show Below w2.heap.size w2 (((u.setCell ⟨g,0,none⟩ (.int .i64 2)).setCell ⟨g,0,none⟩ (.int .i64 3)).alloc (.cells em.toArray 34)) from ae (bD (bD HUW.out (by omega) _) (by omega) _) (af _ _))
    have LEa:=Hd (show gj w2.heap.size B N (fun k=>k=g∨k=u.heap.size) w (((u.setCell ⟨g,0,none⟩ (.int .i64 2)).setCell ⟨g,0,none⟩ (.int .i64 3)).alloc (.cells em.toArray 34)) d bcs from ((LEu.out.cell (.inl rfl)).cell (.inl rfl)).below (af _ _))
    have LFa:=Hd (show iW w2.heap.size B N (fun k=>k=g∨k=u.heap.size) w (((u.setCell ⟨g,0,none⟩ (.int .i64 2)).setCell ⟨g,0,none⟩ (.int .i64 3)).alloc (.cells em.toArray 34)) l fb from ((LFu.out.cell (.inl rfl)).cell (.inl rfl)).below (af _ _))
    have qa0:=R5a.out.cell k0
    have qa15:=R5a.out.cell k15
    have qn:=((RX.out.set 0 (.int .i64 2)).alloc (.cells em.toArray 34)).cell (j:=0) (v:=.int .i64 2) rfl
    have qnf:=((RX.out.set 0 (.int .i64 2)).alloc (.cells em.toArray 34)).frozen 0
    have qb0:((u.setCell ⟨g,0,none⟩ (.int .i64 2)).alloc (.cells em.toArray 34)).cell? ⟨g5,0,none⟩=some (.int .i64 20):=((U5.out.setOther (by omega) _ _).alloc _).cell k0
    have HBx:=Hd (show Below w.heap.size w (u.alloc (.cells em.toArray 34)) from ae HU.out (af _ _))
    have qc3:=Hd (Z3.out.below (HBx.out.mono hB) HBE.out)
    have qd3:(u.alloc (.cells em.toArray 34)).cell? ⟨be,oe+51,none⟩=some (.int .i64 30):=by
     have h:=qc3.out 0 (List.getElem?_eq_some_iff.1 K30.out).1
     rw [K30.out,ha] at h
     exact h
    go_wp2_with (first
     | ((with_reducible show wpList _ _ _ (⟨some 38,_,_,_,_,_⟩::_) _ _);refine wpList_load_mid rfl 34 _ rfl g5 0 rfl em _ U5.out.range Tryz.underlying34 rfl hle.out ?_)
     | ((with_reducible show wpList _ _ _ (⟨none,.store 34 (.tmp 8) (.tmp 38),_,_,_,_⟩::_) _ _);refine ak rfl 34 _ _ rfl ai.toArray em.toArray rfl rfl hle2.out hle3.out HOA.out ?_)
     | ((with_reducible show wpList _ _ _ (⟨some 63,_,_,_,_,_⟩::_) _ _);refine wpList_load_mid rfl 34 _ rfl be (oe+17) rfl r1 _ (HZ1.out.below (HBa.out.mono hB) HBE.out).range Tryz.underlying34 rfl hr1.out ?_))
    obtain ⟨u4,hu4⟩:∃ u4,u4=(((u.setCell ⟨g,0,none⟩ (.int .i64 2)).setCell ⟨g,0,none⟩ (.int .i64 3)).alloc (.cells em.toArray 34)):=⟨_,rfl⟩
    rw [← hu4] at RXa R5a R8a RZa HBa HWa LEa LFa ⊢
    clear hu4 q0 qm qmf q15 qa0 qa15 U5b U8b qn qnf qb0 qc3 qd3 HBx
    refine (hcon.out u4 B N r1 hN (Nat.le_trans hB HBa.out.size) (V1.out.below (HBa.out.mono hB))).mono ?_
    rintro e5 v5 ⟨rfl,hb5⟩
    have HB5:=Hd (ae HBa.out hb5)
    have HW5:=Hd (ae HWa.out hb5)
    have RX5:=Hd (RXa.out.then hb5)
    have R55:=Hd (R5a.out.then hb5)
    have R85:=Hd (R8a.out.then hb5)
    have RZ5:=Hd (RZa.out.then hb5)
    have LE5:=Hd (LEa.out.below hb5)
    have LF5:=Hd (LFa.out.below hb5)
    clear hb5
    obtain ⟨kc,hkc⟩:∃ kc,kD 47 e.args[1]=kc:=⟨_,rfl⟩
    have HKC:=Hd hkc
    rw [hkc]
    clear hkc
    cases kc
    ·have HN:=Hd (show cy x=none by rw [HPL.out,HKC.out];rfl)
     go_wp2_with ((with_reducible show wpList _ _ _ (⟨none,.store 58 (.tmp 2) (.tmp 66),_,_,_,_⟩::_) _ _);refine aD rfl 58 _ _ rfl (w.heap.size+1) 0 aB rfl rfl 58 aB aB RZ5.out aO rfl (Nat.le_refl 55) (dM w 0 0).one ?_)
     refine bodyPost_ret (ap rfl _ _ (w.heap.size+1) 58 aB.toArray (0,0) _ rfl (RZ5.out.setRow aB) Tryz.underlying58 rfl aO) rfl ?_
     exact dI.no h0 HN.out (below_setRow HB5.out (by omega) _)
    ·have HPM:=Hd (show cy x=(cQ (dZ 47 e.args[0])).map fun l=>⟨3,l,e.name,e.args[1],e.args[2],d⟩ by rw [HPL.out,HKC.out,if_neg (by decide),hk];rfl)
     have s15:=R55.out.cell k15
     go_wp2_with (first
      | ((with_reducible show wpList _ _ _ (⟨some 70,_,_,_,_,_⟩::_) _ _);refine wpList_load_mid rfl 34 _ rfl be oe rfl r0 _ (HZ0.out.below (HB5.out.mono hB) HBE.out).range Tryz.underlying34 rfl hr0.out ?_)
      | ((with_reducible show wpList _ _ _ (⟨none,.store 34 (.tmp 8) (.tmp 70),_,_,_,_⟩::_) _ _);refine wpList_store_row rfl 34 _ _ rfl u.heap.size r0.toArray rfl rfl 34 em.toArray R85.out (by rw [List.size_toArray];exact hr0.out) (by rw [List.size_toArray,List.size_toArray,ELEN.out,R0LEN.out]) (Go.all_oneCell_toArray HO0.out) ?_))
     obtain ⟨v6,hv6⟩:∃ v6,v6=(v5.setRow u.heap.size r0.toArray):=⟨_,rfl⟩
     have RX6:=Hd (show aq 58 v6 g (ao 3 (.slice none 0 0) ⟨#[]⟩ ai ai bcs (.slice fb l.length fd)) by rw [hv6];exact RX5.out.setRowOther (by omega) _)
     have R56:=Hd (show aq 34 v6 g5 em by rw [hv6];exact R55.out.setRowOther (by have:=hg5u.out;omega) _)
     have R86:=Hd (show aq 34 v6 u.heap.size r0 by rw [hv6];exact R85.out.setRow _)
     have RZ6:=Hd (show aq 58 v6 (w.heap.size+1) aB by rw [hv6];exact RZ5.out.setRowOther (by omega) _)
     have HB6:=Hd (show Below w.heap.size w v6 by rw [hv6];exact below_setRow HB5.out (by omega) _)
     have HW6:=Hd (show Below w2.heap.size w2 v6 by rw [hv6];exact below_setRow HW5.out (by omega) _)
     have LE6:=Hd (show gj w2.heap.size B N (fun k=>k=g∨k=u.heap.size) w v6 d bcs by rw [hv6];exact LE5.out.row (.inr rfl))
     have LF6:=Hd (show iW w2.heap.size B N (fun k=>k=g∨k=u.heap.size) w v6 l fb by rw [hv6];exact LF5.out.row (.inr rfl))
     rw [← hv6]
     clear hv6 s15
     have hg6x:=RX6.out.lt
     have hb6x:=R86.out.lt
     have hHD:aq 34 v6.drew g5 em∧Below w2.heap.size w2 v6.drew:=⟨R56.out.drew,ae HW6.out (cG v6)⟩
     have hDB:=ae HB6.out (cG v6)
     refine wp_region_held_drew (S:=fun z=>aq 34 z g5 em∧Below w2.heap.size w2 z) (by kernel_rfl) hHD (fun hHeld=>?_)
     refine' tk 0 (.pointer (some ⟨g5,1,none⟩)) rfl rfl (.inl ⟨by rfl,fun u hu=>(by go_simp)⟩) hHeld ?_
     simp only [sq1,sq0]
     refine' tk 1 (.string e.name) rfl rfl (.inl ⟨by rfl,fun u hu=>(by have hc:=hu.1.cell k1;go_simp)⟩) hHeld ?_
     simp only [sq1,sq0]
     refine' tk 2 (.pointer (some ⟨g5,15,none⟩)) rfl rfl (.inl ⟨by rfl,fun u hu=>(by go_simp)⟩) hHeld ?_
     simp only [sq1,sq0]
     refine' tk 3 (.slice (some ⟨be,oe,none⟩) 4 eac) rfl rfl (.inl ⟨by rfl,fun u hu=>(by have hc:=hu.1.cell k15;go_simp)⟩) hHeld ?_
     simp only [sq1,sq0]
     refine' tk 4 (.pointer (some ⟨be,oe+17,none⟩)) rfl rfl (.inl ⟨by rfl,fun u hu=>(by go_simp)⟩) hHeld ?_
     simp only [sq1,sq0]
     refine' tk 5 (.agg r1.toArray) rfl rfl (yieldsIf_load_mid (by kernel_rfl) 34 _ rfl (be) (oe+17) rfl r1 _ (fun u hu=>(HZ1.out.below ((ae H2.out hu.2).mono hB) HBE.out).range) Tryz.underlying34 rfl hr1.out) hHeld ?_
     simp only [sq1,sq0]
     refine' tk 7 (.pointer (some ⟨g5,15,none⟩)) rfl rfl (.inl ⟨by rfl,fun u hu=>(by go_simp)⟩) hHeld ?_
     simp only [sq1,sq0]
     refine' tk 8 (.slice (some ⟨be,oe,none⟩) 4 eac) rfl rfl (.inl ⟨by rfl,fun u hu=>(by have hc:=hu.1.cell k15;go_simp)⟩) hHeld ?_
     simp only [sq1,sq0]
     refine' tk 9 (.pointer (some ⟨be,oe+34,none⟩)) rfl rfl (.inl ⟨by rfl,fun u hu=>(by go_simp)⟩) hHeld ?_
     simp only [sq1,sq0]
     refine' tk 10 (.agg r2.toArray) rfl rfl (yieldsIf_load_mid (by kernel_rfl) 34 _ rfl (be) (oe+34) rfl r2 _ (fun u hu=>(Z2.out.below ((ae H2.out hu.2).mono hB) HBE.out).range) Tryz.underlying34 rfl hr2.out) hHeld ?_
     simp only [sq1,sq0]
     refine' tk 12 (.pointer (some ⟨g,2,none⟩)) rfl rfl (.inl ⟨by rfl,fun u hu=>(by go_simp)⟩) hHeld ?_
     simp only [sq1,sq0]
     refine rd1 6 rfl (fun K hK=>?_)
     go_simp
     have hB1:=Hd (show Below B w v6.drew from hDB.mono hB)
     refine (HC1.out v6.drew B N r1 hN (Nat.le_trans hB hDB.size) (V1.out.below hB1.out)).mono ?_
     rintro e8 x1 ⟨ic,rfl,hsi,hbi⟩
     have hci:=hsi.here (hbi.mono (Nat.le_trans hB hDB.size))
     have HSI:=Hd hsi
     have ILEN:=Hd (show ic.length=17 from hci.len)
     have HIO:=Hd hci.one
     have hix:v6.drew.heap.size≤x1.heap.size:=hbi.size
     have KI:=bO.refl v6.drew.heap.size none x1
     have hDB1:=ae hDB hbi
     have X1:=(RX6.out.drew).then hbi
     have Y1:=(R86.out.drew).then hbi
     have Q1:=(RZ6.out.drew).then hbi
     have L1:=(LE6.out.below (cG v6)).below hbi
     have M1:=(LF6.out.below (cG v6)).below hbi
     have hs1:aq 34 x1 g5 em∧Below w2.heap.size w2 x1:=⟨hHeld.1.then hbi,ae hHeld.2 hbi⟩
     refine hK.out _ _ hs1 (fun hHeldx=>?_)
     clear hK K hHeldx hsi hci hbi
     refine rd1 11 rfl (fun K hK=>?_)
     go_simp
     have hB2:=Hd (show Below B w x1 from hDB1.mono hB)
     refine (HC2.out x1 B N r2 hN (Nat.le_trans hB hDB1.size) (V2.out.below hB2.out)).mono ?_
     rintro e9 x2 ⟨uc,rfl,hsu,hbu⟩
     have hcu:=hsu.here (hbu.mono (Nat.le_trans hB hDB1.size))
     have HSU:=Hd hsu
     have ULEN:=Hd (show uc.length=17 from hcu.len)
     have HUO:=Hd hcu.one
     have hux:x1.heap.size≤x2.heap.size:=hbu.size
     have KU:=bO.refl x1.heap.size none x2
     have KI:=cK KI hbu
     have hDB2:=ae hDB1 hbu
     have X2:=X1.then hbu
     have Y2:=Y1.then hbu
     have Q2:=Q1.then hbu
     have L2:=L1.below hbu
     have M2:=M1.below hbu
     have hs2:aq 34 x2 g5 em∧Below w2.heap.size w2 x2:=⟨hs1.1.then hbu,ae hs1.2 hbu⟩
     refine hK.out _ _ hs2 (fun hHeldx=>?_)
     clear hK K hHeldx hsu hcu hbu X1 Y1 Q1 L1 M1 hs1
     have hli:=Hd (show (Tryz.prog.info? 34).map (·.size)=some ic.length by rw [ILEN.out];exact ay)
     have hlu:=Hd (show (Tryz.prog.info? 34).map (·.size)=some uc.length by rw [ULEN.out];exact ay)
     have lvi:gj w2.heap.size B N (fun k=>k=g∨k=u.heap.size) w x2 e.args[1] ic:=ez HSI.out hB1.out hix KI (by have h:=HW6.out.size;have h2:v6.drew.heap.size=v6.heap.size:=rfl;omega) (fun k hk=>by have h2:v6.drew.heap.size=v6.heap.size:=rfl;rcases hk with rfl | rfl<;>omega)
     have lvu:gj w2.heap.size B N (fun k=>k=g∨k=u.heap.size) w x2 e.args[2] uc:=ez HSU.out hB2.out hux KU (by have h:=HW6.out.size;have h2:v6.drew.heap.size=v6.heap.size:=rfl;omega) (fun k hk=>by have h2:v6.drew.heap.size=v6.heap.size:=rfl;rcases hk with rfl | rfl<;>omega)
     have s2:=X2.cell (pD 3 (.slice none 0 0) ⟨#[]⟩ ai ai bcs (.slice fb l.length fd))
     have sf2:=X2.frozen 2
     refine rd1 13 rfl (fun K hK=>?_)
     go_simp
     have hs3:aq 34 (x2.setCell ⟨g,2,none⟩ (.string e.name)) g5 em∧Below w2.heap.size w2 (x2.setCell ⟨g,2,none⟩ (.string e.name)):=⟨hs2.1.setOther (by omega) _ _,bD hs2.2 (by omega) _⟩
     have X3:aq 58 _ g (ao 3 (.slice none 0 0) e.name ai ai bcs (.slice fb l.length fd)):=X2.set 2 (.string e.name)
     have Y3:=Y2.setOther (b':=g) (by omega) 2 (.string e.name)
     have Q3:=Q2.setOther (b':=g) (by omega) 2 (.string e.name)
     have L3:=L2.cell (j:=2) (v:=.string e.name) (.inl rfl)
     have M3:=M2.cell (j:=2) (v:=.string e.name) (.inl rfl)
     have I3:=lvi.cell (j:=2) (v:=.string e.name) (.inl rfl)
     have J3:=lvu.cell (j:=2) (v:=.string e.name) (.inl rfl)
     have hDB3:=bD (j:=2) hDB2 (show w.heap.size≤g by omega) (.string e.name)
     refine hK.out _ _ hs3 (fun hHeldx=>?_)
     clear hK K s2 sf2 X2 Y2 Q2 L2 M2 lvi lvu hs2 hDB2
     refine' tk 14 (.pointer (some ⟨g,3,none⟩)) rfl rfl (.inl ⟨by rfl,fun u hu=>(by go_simp)⟩) hHeldx ?_
     simp only [sq1,sq0]
     refine rd1 15 rfl (fun K hK=>?_)
     rw [if_pos (by kernel_rfl)]
     refine bn 34 _ _ rfl g 3 ic rfl rfl 58 (ao 3 (.slice none 0 0) e.name ai ai bcs (.slice fb l.length fd)) (ao 3 (.slice none 0 0) e.name ic ai bcs (.slice fb l.length fd)) X3 hli.out (g8 _ _ _ _ rfl ILEN.out) (by rw [ILEN.out,bl _ _ _ _ rfl rfl HBL.out];exact Nat.le_of_ble_eq_true rfl) HIO.out ?_
     have hs4:=And.intro (hs3.1.setRowOther (b':=g) (by omega) ((ao 3 (.slice none 0 0) e.name ic ai bcs (.slice fb l.length fd)):List Value).toArray) (below_setRow hs3.2 (show w2.heap.size≤g by omega) ((ao 3 (.slice none 0 0) e.name ic ai bcs (.slice fb l.length fd)):List Value).toArray)
     have X4:=X3.setRow (ao 3 (.slice none 0 0) e.name ic ai bcs (.slice fb l.length fd))
     have Y4:=Y3.setRowOther (b':=g) (by omega) ((ao 3 (.slice none 0 0) e.name ic ai bcs (.slice fb l.length fd)):List Value).toArray
     have Q4:=Q3.setRowOther (b':=g) (by omega) ((ao 3 (.slice none 0 0) e.name ic ai bcs (.slice fb l.length fd)):List Value).toArray
     have L4:=L3.row (new:=((ao 3 (.slice none 0 0) e.name ic ai bcs (.slice fb l.length fd)):List Value).toArray) (.inl rfl)
     have M4:=M3.row (new:=((ao 3 (.slice none 0 0) e.name ic ai bcs (.slice fb l.length fd)):List Value).toArray) (.inl rfl)
     have I4:=I3.row (new:=((ao 3 (.slice none 0 0) e.name ic ai bcs (.slice fb l.length fd)):List Value).toArray) (.inl rfl)
     have J4:=J3.row (new:=((ao 3 (.slice none 0 0) e.name ic ai bcs (.slice fb l.length fd)):List Value).toArray) (.inl rfl)
     have hDB4:=below_setRow hDB3 (show w.heap.size≤g by omega) ((ao 3 (.slice none 0 0) e.name ic ai bcs (.slice fb l.length fd)):List Value).toArray
     refine hK.out _ _ hs4 (fun hHeldx=>?_)
     clear hK K X3 Y3 Q3 L3 M3 I3 J3 hs3 hDB3
     refine' tk 16 (.pointer (some ⟨g,20,none⟩)) rfl rfl (.inl ⟨by rfl,fun u hu=>(by go_simp)⟩) hHeldx ?_
     simp only [sq1,sq0]
     refine rd1 17 rfl (fun K hK=>?_)
     rw [if_pos (by kernel_rfl)]
     refine bn 34 _ _ rfl g 20 uc rfl rfl 58 (ao 3 (.slice none 0 0) e.name ic ai bcs (.slice fb l.length fd)) (ao 3 (.slice none 0 0) e.name ic uc bcs (.slice fb l.length fd)) X4 hlu.out (i6 _ _ _ _ ILEN.out rfl ULEN.out) (by rw [ULEN.out,bl _ _ _ _ ILEN.out rfl HBL.out];exact Nat.le_of_ble_eq_true rfl) HUO.out ?_
     have hs5:=And.intro (hs4.1.setRowOther (b':=g) (by omega) ((ao 3 (.slice none 0 0) e.name ic uc bcs (.slice fb l.length fd)):List Value).toArray) (below_setRow hs4.2 (show w2.heap.size≤g by omega) ((ao 3 (.slice none 0 0) e.name ic uc bcs (.slice fb l.length fd)):List Value).toArray)
     have X5:=X4.setRow (ao 3 (.slice none 0 0) e.name ic uc bcs (.slice fb l.length fd))
     have Y5:=Y4.setRowOther (b':=g) (by omega) ((ao 3 (.slice none 0 0) e.name ic uc bcs (.slice fb l.length fd)):List Value).toArray
     have Q5:=Q4.setRowOther (b':=g) (by omega) ((ao 3 (.slice none 0 0) e.name ic uc bcs (.slice fb l.length fd)):List Value).toArray
     have L5:=L4.row (new:=((ao 3 (.slice none 0 0) e.name ic uc bcs (.slice fb l.length fd)):List Value).toArray) (.inl rfl)
     have M5:=M4.row (new:=((ao 3 (.slice none 0 0) e.name ic uc bcs (.slice fb l.length fd)):List Value).toArray) (.inl rfl)
     have I5:=I4.row (new:=((ao 3 (.slice none 0 0) e.name ic uc bcs (.slice fb l.length fd)):List Value).toArray) (.inl rfl)
     have J5:=J4.row (new:=((ao 3 (.slice none 0 0) e.name ic uc bcs (.slice fb l.length fd)):List Value).toArray) (.inl rfl)
     have hDB5:=below_setRow hDB4 (show w.heap.size≤g by omega) ((ao 3 (.slice none 0 0) e.name ic uc bcs (.slice fb l.length fd)):List Value).toArray
     refine hK.out _ _ hs5 (fun hHeldx=>?_)
     clear hK K X4 Y4 Q4 L4 M4 I4 J4 hs4 hDB4
     refine wpAnyH_done (by kernel_rfl) ?_ _
     have hF:=And.intro X5 (And.intro Y5 (And.intro Q5 (And.intro L5 (And.intro M5 (And.intro I5 (And.intro J5 hDB5))))))
     clear X5 Y5 Q5 L5 M5 I5 J5 hDB5 hs5 hHeldx hHeld hHD KI KU hDB hDB1
     generalize World.setRow _ _ _=z at hF ⊢
     obtain ⟨x5,y5,q5,l5,m5,i5,j5,d5⟩:=hF
     have XZ:=Hd x5
     have YZ:=Hd y5
     have QZ:=Hd q5
     have LEz:=Hd l5
     have LFz:=Hd m5
     have LI:=Hd i5
     have LJ:=Hd j5
     have HBz:=Hd d5
     clear x5 y5 q5 l5 m5 i5 j5 d5
     go_wp2_with ((with_reducible show wpList _ _ _ (⟨some 87,_,_,_,_,_⟩::_) _ _);refine wpList_load_mid rfl 34 _ rfl u.heap.size 0 rfl r0 _ YZ.out.range Tryz.underlying34 rfl hr0.out ?_)
     refine (n9 hw0.out z B N r0 hN (Nat.le_trans hB HBz.out.size) (V0.out.below (HBz.out.mono hB))).mono ?_
     rintro e7 v7 ⟨sv,sl,k7,rfl,HO7,HS7,hb7⟩
     have HB7:=Hd (ae HBz.out hb7)
     have RX7:=Hd (XZ.out.then hb7)
     have RZ7:=Hd (QZ.out.then hb7)
     have hgw:=Hd (show g<z.heap.size from XZ.out.lt)
     have LE7:=Hd (LEz.out.below hb7)
     have LF7:=Hd (LFz.out.below hb7)
     have LI7:=Hd (LI.out.below hb7)
     have LJ7:=Hd (LJ.out.below hb7)
     clear hb7
     obtain ⟨ad,cp,rfl,hsafe⟩:=jH HO7.out (Nat.le_refl _)
     have HSF:=Hd hsafe
     have RX8:=Hd (show aq 58 (v7.setCell ⟨g,1,none⟩ (.slice ad sl.length cp)) g (ao 3 (.slice ad sl.length cp) e.name ic uc bcs (.slice fb l.length fd)) from RX7.out.set 1 _)
     have RZ8:=Hd (show aq 58 (v7.setCell ⟨g,1,none⟩ (.slice ad sl.length cp)) (w.heap.size+1) aB from RZ7.out.setOther (by omega) _ _)
     have HB8:=Hd (show Below w.heap.size w (v7.setCell ⟨g,1,none⟩ (.slice ad sl.length cp)) from bD HB7.out (by omega) _)
     have t1:=RX7.out.cell (jK 3 (.slice none 0 0) e.name ic uc bcs (.slice fb l.length fd))
     have tf1:=RX7.out.frozen 1
     clear hsafe HO7
     cases k7
     ·have HN:=Hd (show cy x=none by rw [HPM.out,HS7.out];rfl)
      go_wp2_with ((with_reducible show wpList _ _ _ (⟨none,.store 58 (.tmp 2) (.tmp 94),_,_,_,_⟩::_) _ _);refine aD rfl 58 _ _ rfl (w.heap.size+1) 0 aB rfl rfl 58 aB aB RZ8.out aO rfl (Nat.le_refl 55) (dM w 0 0).one ?_)
      refine bodyPost_ret (ap rfl _ _ (w.heap.size+1) 58 aB.toArray (0,0) _ rfl (RZ8.out.setRow aB) Tryz.underlying58 rfl aO) rfl ?_
      exact dI.no h0 HN.out (below_setRow HB8.out (by omega) _)
     ·have hok:cQ (dZ 47 e.args[0])=some sl:=by rw [HS7.out];rfl
      have HL48:=Hd (gr hok)
      have HN:=Hd (show cy x=some ⟨3,sl,e.name,e.args[1],e.args[2],d⟩ by rw [HPM.out,hok];rfl)
      have hpl:((ao 3 (.slice ad sl.length cp) e.name ic uc bcs (.slice fb l.length fd)):List Value).length=55:=bl _ _ _ _ ILEN.out ULEN.out HBL.out
      have hp1:=Hd (show (Tryz.prog.info? 58).map (·.size)=some ((ao 3 (.slice ad sl.length cp) e.name ic uc bcs (.slice fb l.length fd)):List Value).length by rw [hpl];exact aO)
      have hp2:=Hd (show (Tryz.prog.info? 58).map (·.size)=some ((ao 3 (.slice ad sl.length cp) e.name ic uc bcs (.slice fb l.length fd)):List Value).toArray.size by rw [List.size_toArray,hpl];exact aO)
      have hp3:=Hd (show aB.toArray.size=((ao 3 (.slice ad sl.length cp) e.name ic uc bcs (.slice fb l.length fd)):List Value).toArray.size by show 55=_;rw [List.size_toArray,hpl])
      have hp4:=Hd (show ((ao 3 (.slice ad sl.length cp) e.name ic uc bcs (.slice fb l.length fd)):List Value).toArray.all (·.oneCell')=true from Go.all_oneCell_toArray (cB rfl HIO.out HUO.out HBO.out rfl))
      clear hpl hok
      go_wp2_with (first
       | ((with_reducible show wpList _ _ _ (⟨some 95,_,_,_,_,_⟩::_) _ _);refine wpList_load_mid rfl 58 _ rfl g 0 rfl (ao 3 (.slice ad sl.length cp) e.name ic uc bcs (.slice fb l.length fd)) _ RX8.out.range Tryz.underlying58 rfl hp1.out ?_)
       | ((with_reducible show wpList _ _ _ (⟨none,.store 58 (.tmp 2) (.tmp 95),_,_,_,_⟩::_) _ _);refine wpList_store_row rfl 58 _ _ rfl (w.heap.size+1) ((ao 3 (.slice ad sl.length cp) e.name ic uc bcs (.slice fb l.length fd)):List Value).toArray rfl rfl 58 aB.toArray RZ8.out hp2.out hp3.out hp4.out ?_))
      refine bodyPost_ret (ap rfl _ _ (w.heap.size+1) 58 ((ao 3 (.slice ad sl.length cp) e.name ic uc bcs (.slice fb l.length fd)):List Value).toArray (0,0) _ rfl (RZ8.out.setRow (ao 3 (.slice ad sl.length cp) e.name ic uc bcs (.slice fb l.length fd))) Tryz.underlying58 rfl hp2.out) rfl ?_
      have HB9:=Hd (show Below w.heap.size w ((v7.setCell ⟨g,1,none⟩ (.slice ad sl.length cp)).setRow (w.heap.size+1) ((ao 3 (.slice ad sl.length cp) e.name ic uc bcs (.slice fb l.length fd)):List Value).toArray) from below_setRow HB8.out (by omega) _)
      have HB9':=Hd (HB9.out.mono hB)
      refine dI.yes h0 HN.out ⟨ad,cp,_,_,_,fb,fd,rfl,HL48.out,hen,hln,?_,?_,?_,?_,?_⟩ HB9.out
      ·refine HSF.out _ ⟨by rw [setRow_size];simp,fun k h1 _ _=>?_⟩
       have hq:=hgw.out
       rw [setRow_other _ _ _ _ (by omega),heap_setCell_other _ _ _ _ (by simp;omega)]
      ·exact ((LI7.out.cell (.inl rfl)).lowRow hwz).here HB9'.out
      ·exact ((LJ7.out.cell (.inl rfl)).lowRow hwz).here HB9'.out
      ·exact ((LE7.out.cell (.inl rfl)).lowRow hwz).here HB9'.out
      ·exact ((LF7.out.cell (.inl rfl)).lowRow hwz).here HB9'.out
   ·have eh:=HEH.out
    have hde:=HDE.out
    have hme:=HME.out
    have hbd:=HBD.out
    have hwe:=HWE.out
    have k0:em[0]?=some (.int .i64 20):=by rw [eh.op,hk]
    have hwe':=gM (hwe.resolve_left (by omega))
    have hel:=eE hwe' (n:=4) (by rw [hk];decide)
    have k15:em[15]?=some (.slice eaa 4 eac):=by rw [eh.args,hel]
    rw [bU (by omega:3<e.args.length)] at ha
    have HPL:=Hd (ji hme hbd (show fy e=false by unfold fy;rw [bU (by omega:3<e.args.length)];simp [hk,ha]))
    obtain ⟨be,oe,rfl,hbe,hge⟩:=eh.atArgs.get (by intro h;simp [h] at hel)
    clear hde
    obtain ⟨r3,z3,v3⟩:=hge 3 (by omega)
    obtain ⟨_,_,_,_,_,vh3⟩:=v3.has
    have Z3:=Hd z3
    have K30:=Hd vh3.op
    clear z3 v3 vh3
    have HBE:=Hd hbe
    clear hge hbe hwe'
    clear eh hme hbd hwe k0g
    have LEu:=Hd (show gj w2.heap.size B N (fun k=>k=g∨k=u.heap.size) w u d bcs from LE.out.more (Nat.le_refl _))
    have LFu:=Hd (show iW w2.heap.size B N (fun k=>k=g∨k=u.heap.size) w u l fb from LF.out.more (Nat.le_refl _))
    have hg5u:=Hd U5.out.lt
    have U5b:=Hd (show aq 34 (u.alloc (.cells em.toArray 34)) g5 em from U5.out.alloc _)
    have U8b:=Hd (show aq 34 (u.alloc (.cells em.toArray 34)) u.heap.size em from aq.new u 34 em)
    have q0:=U5b.out.cell k0
    clear LE LF U6
    have q15:=U5b.out.cell k15
    have HBx:=Hd (show Below w.heap.size w (u.alloc (.cells em.toArray 34)) from ae HU.out (af _ _))
    have qc3:=Hd (Z3.out.below (HBx.out.mono hB) HBE.out)
    have qd3:(u.alloc (.cells em.toArray 34)).cell? ⟨be,oe+51,none⟩=some (.int .i64 e.args[3].op):=by
     have h:=qc3.out 0 (List.getElem?_eq_some_iff.1 K30.out).1
     rw [K30.out] at h
     exact h
    have q30:(e.args[3].op==30)=false:=by simpa using ha
    go_wp2_with (first
     | ((with_reducible show wpList _ _ _ (⟨some 38,_,_,_,_,_⟩::_) _ _);refine wpList_load_mid rfl 34 _ rfl g5 0 rfl em _ U5.out.range Tryz.underlying34 rfl hle.out ?_)
     | ((with_reducible show wpList _ _ _ (⟨none,.store 34 (.tmp 8) (.tmp 38),_,_,_,_⟩::_) _ _);refine ak rfl 34 _ _ rfl ai.toArray em.toArray rfl rfl hle2.out hle3.out HOA.out ?_)
     | ((with_reducible show wpList _ _ _ (⟨some 87,_,_,_,_,_⟩::_) _ _);refine wpList_load_mid rfl 34 _ rfl u.heap.size 0 rfl em _ U8b.out.range Tryz.underlying34 rfl hle.out ?_))
    obtain ⟨u3,hu3⟩:∃ u3,u3=(u.alloc (.cells em.toArray 34)):=⟨_,rfl⟩
    have RX3:=Hd (show aq 58 u3 g (ao 1 (.slice none 0 0) ⟨#[]⟩ ai ai bcs (.slice fb l.length fd)) by rw [hu3];exact RX.out.alloc _)
    have RZ3:=Hd (show aq 58 u3 (w.heap.size+1) aB by rw [hu3];exact RZu.out.alloc _)
    have HB3:=Hd (show Below w.heap.size w u3 by rw [hu3];exact ae HU.out (af _ _))
    have LE3:=Hd (show gj w2.heap.size B N (fun k=>k=g∨k=u.heap.size) w u3 d bcs by rw [hu3];exact LEu.out.below (af _ _))
    have LF3:=Hd (show iW w2.heap.size B N (fun k=>k=g∨k=u.heap.size) w u3 l fb by rw [hu3];exact LFu.out.below (af _ _))
    rw [← hu3]
    clear hu3 q0 U5b U8b q15 HBx qc3 qd3
    refine (n9 HWE.out u3 B N em hN (Nat.le_trans hB HB3.out.size) (HEM.out.below (HB3.out.mono hB))).mono ?_
    rintro e7 v7 ⟨sv,sl,k7,rfl,HO7,HS7,hb7⟩
    have HB7:=Hd (ae HB3.out hb7)
    have RX7:=Hd (RX3.out.then hb7)
    have RZ7:=Hd (RZ3.out.then hb7)
    have hgw:=Hd (show g<u3.heap.size from RX3.out.lt)
    have LE7:=Hd (LE3.out.below hb7)
    have LF7:=Hd (LF3.out.below hb7)
    clear hb7
    obtain ⟨ad,cp,rfl,hsafe⟩:=jH HO7.out (Nat.le_refl _)
    have HSF:=Hd hsafe
    have RX8:=Hd (show aq 58 (v7.setCell ⟨g,1,none⟩ (.slice ad sl.length cp)) g (ao 1 (.slice ad sl.length cp) ⟨#[]⟩ ai ai bcs (.slice fb l.length fd)) from RX7.out.set 1 _)
    have RZ8:=Hd (show aq 58 (v7.setCell ⟨g,1,none⟩ (.slice ad sl.length cp)) (w.heap.size+1) aB from RZ7.out.setOther (by omega) _ _)
    have HB8:=Hd (show Below w.heap.size w (v7.setCell ⟨g,1,none⟩ (.slice ad sl.length cp)) from bD HB7.out (by omega) _)
    have t1:=RX7.out.cell (jK 1 (.slice none 0 0) ⟨#[]⟩ ai ai bcs (.slice fb l.length fd))
    have tf1:=RX7.out.frozen 1
    clear hsafe HO7
    cases k7
    ·have HN:=Hd (show cy x=none by rw [HPL.out,HS7.out];rfl)
     go_wp2_with ((with_reducible show wpList _ _ _ (⟨none,.store 58 (.tmp 2) (.tmp 94),_,_,_,_⟩::_) _ _);refine aD rfl 58 _ _ rfl (w.heap.size+1) 0 aB rfl rfl 58 aB aB RZ8.out aO rfl (Nat.le_refl 55) (dM w 0 0).one ?_)
     refine bodyPost_ret (ap rfl _ _ (w.heap.size+1) 58 aB.toArray (0,0) _ rfl (RZ8.out.setRow aB) Tryz.underlying58 rfl aO) rfl ?_
     exact dI.no h0 HN.out (below_setRow HB8.out (by omega) _)
    ·have hok:cQ (dZ 47 e)=some sl:=by rw [HS7.out];rfl
     have HL48:=Hd (gr hok)
     have HN:=Hd (show cy x=some ⟨1,sl,⟨#[]⟩,fG,fG,d⟩ by rw [HPL.out,hok];rfl)
     have hpl:((ao 1 (.slice ad sl.length cp) ⟨#[]⟩ ai ai bcs (.slice fb l.length fd)):List Value).length=55:=bl _ _ _ _ rfl rfl HBL.out
     have hp1:=Hd (show (Tryz.prog.info? 58).map (·.size)=some ((ao 1 (.slice ad sl.length cp) ⟨#[]⟩ ai ai bcs (.slice fb l.length fd)):List Value).length by rw [hpl];exact aO)
     have hp2:=Hd (show (Tryz.prog.info? 58).map (·.size)=some ((ao 1 (.slice ad sl.length cp) ⟨#[]⟩ ai ai bcs (.slice fb l.length fd)):List Value).toArray.size by rw [List.size_toArray,hpl];exact aO)
     have hp3:=Hd (show aB.toArray.size=((ao 1 (.slice ad sl.length cp) ⟨#[]⟩ ai ai bcs (.slice fb l.length fd)):List Value).toArray.size by show 55=_;rw [List.size_toArray,hpl])
     have hp4:=Hd (show ((ao 1 (.slice ad sl.length cp) ⟨#[]⟩ ai ai bcs (.slice fb l.length fd)):List Value).toArray.all (·.oneCell')=true from Go.all_oneCell_toArray (cB rfl (bu w 0 0).one (bu w 0 0).one HBO.out rfl))
     clear hpl hok
     go_wp2_with (first
      | ((with_reducible show wpList _ _ _ (⟨some 95,_,_,_,_,_⟩::_) _ _);refine wpList_load_mid rfl 58 _ rfl g 0 rfl (ao 1 (.slice ad sl.length cp) ⟨#[]⟩ ai ai bcs (.slice fb l.length fd)) _ RX8.out.range Tryz.underlying58 rfl hp1.out ?_)
      | ((with_reducible show wpList _ _ _ (⟨none,.store 58 (.tmp 2) (.tmp 95),_,_,_,_⟩::_) _ _);refine wpList_store_row rfl 58 _ _ rfl (w.heap.size+1) ((ao 1 (.slice ad sl.length cp) ⟨#[]⟩ ai ai bcs (.slice fb l.length fd)):List Value).toArray rfl rfl 58 aB.toArray RZ8.out hp2.out hp3.out hp4.out ?_))
     refine bodyPost_ret (ap rfl _ _ (w.heap.size+1) 58 ((ao 1 (.slice ad sl.length cp) ⟨#[]⟩ ai ai bcs (.slice fb l.length fd)):List Value).toArray (0,0) _ rfl (RZ8.out.setRow (ao 1 (.slice ad sl.length cp) ⟨#[]⟩ ai ai bcs (.slice fb l.length fd))) Tryz.underlying58 rfl hp2.out) rfl ?_
     have HB9:=Hd (show Below w.heap.size w ((v7.setCell ⟨g,1,none⟩ (.slice ad sl.length cp)).setRow (w.heap.size+1) ((ao 1 (.slice ad sl.length cp) ⟨#[]⟩ ai ai bcs (.slice fb l.length fd)):List Value).toArray) from below_setRow HB8.out (by omega) _)
     have HB9':=Hd (HB9.out.mono hB)
     refine dI.yes h0 HN.out ⟨ad,cp,_,_,_,fb,fd,rfl,HL48.out,(show (0:Nat)≤N by omega),hln,?_,?_,?_,?_,?_⟩ HB9.out
     ·refine HSF.out _ ⟨by rw [setRow_size];simp,fun k h1 _ _=>?_⟩
      have hq:=hgw.out
      rw [setRow_other _ _ _ _ (by omega),heap_setCell_other _ _ _ _ (by simp;omega)]
     ·exact bu _ _ _
     ·exact bu _ _ _
     ·exact ((LE7.out.cell (.inl rfl)).lowRow hwz).here HB9'.out
     ·exact ((LF7.out.cell (.inl rfl)).lowRow hwz).here HB9'.out
  ·have hk1:=hk
   clear hk
   have eh:=HEH.out
   have hde:=HDE.out
   have hme:=HME.out
   have hbd:=HBD.out
   have hwe:=HWE.out
   have k0:em[0]?=some (.int .i64 e.op):=eh.op
   have e19:(e.op==19)=false:=by simpa using hk1
   have e20:(e.op==20)=false:=by simpa using hk2
   have HPL:=Hd (ji hme hbd (show fy e=false by unfold fy;simp [hk1,hk2]))
   clear hde
   clear eh hme hbd hwe k0g
   have LEu:=Hd (show gj w2.heap.size B N (fun k=>k=g∨k=u.heap.size) w u d bcs from LE.out.more (Nat.le_refl _))
   have LFu:=Hd (show iW w2.heap.size B N (fun k=>k=g∨k=u.heap.size) w u l fb from LF.out.more (Nat.le_refl _))
   have hg5u:=Hd U5.out.lt
   have U5b:=Hd (show aq 34 (u.alloc (.cells em.toArray 34)) g5 em from U5.out.alloc _)
   have U8b:=Hd (show aq 34 (u.alloc (.cells em.toArray 34)) u.heap.size em from aq.new u 34 em)
   have q0:=U5b.out.cell k0
   clear LE LF U6
   go_wp2_with (first
    | ((with_reducible show wpList _ _ _ (⟨some 38,_,_,_,_,_⟩::_) _ _);refine wpList_load_mid rfl 34 _ rfl g5 0 rfl em _ U5.out.range Tryz.underlying34 rfl hle.out ?_)
    | ((with_reducible show wpList _ _ _ (⟨none,.store 34 (.tmp 8) (.tmp 38),_,_,_,_⟩::_) _ _);refine ak rfl 34 _ _ rfl ai.toArray em.toArray rfl rfl hle2.out hle3.out HOA.out ?_)
    | ((with_reducible show wpList _ _ _ (⟨some 87,_,_,_,_,_⟩::_) _ _);refine wpList_load_mid rfl 34 _ rfl u.heap.size 0 rfl em _ U8b.out.range Tryz.underlying34 rfl hle.out ?_))
   obtain ⟨u3,hu3⟩:∃ u3,u3=(u.alloc (.cells em.toArray 34)):=⟨_,rfl⟩
   have RX3:=Hd (show aq 58 u3 g (ao 1 (.slice none 0 0) ⟨#[]⟩ ai ai bcs (.slice fb l.length fd)) by rw [hu3];exact RX.out.alloc _)
   have RZ3:=Hd (show aq 58 u3 (w.heap.size+1) aB by rw [hu3];exact RZu.out.alloc _)
   have HB3:=Hd (show Below w.heap.size w u3 by rw [hu3];exact ae HU.out (af _ _))
   have LE3:=Hd (show gj w2.heap.size B N (fun k=>k=g∨k=u.heap.size) w u3 d bcs by rw [hu3];exact LEu.out.below (af _ _))
   have LF3:=Hd (show iW w2.heap.size B N (fun k=>k=g∨k=u.heap.size) w u3 l fb by rw [hu3];exact LFu.out.below (af _ _))
   rw [← hu3]
   clear hu3 q0 U5b U8b
   refine (n9 HWE.out u3 B N em hN (Nat.le_trans hB HB3.out.size) (HEM.out.below (HB3.out.mono hB))).mono ?_
   rintro e7 v7 ⟨sv,sl,k7,rfl,HO7,HS7,hb7⟩
   have HB7:=Hd (ae HB3.out hb7)
   have RX7:=Hd (RX3.out.then hb7)
   have RZ7:=Hd (RZ3.out.then hb7)
   have hgw:=Hd (show g<u3.heap.size from RX3.out.lt)
   have LE7:=Hd (LE3.out.below hb7)
   have LF7:=Hd (LF3.out.below hb7)
   clear hb7
   obtain ⟨ad,cp,rfl,hsafe⟩:=jH HO7.out (Nat.le_refl _)
   have HSF:=Hd hsafe
   have RX8:=Hd (show aq 58 (v7.setCell ⟨g,1,none⟩ (.slice ad sl.length cp)) g (ao 1 (.slice ad sl.length cp) ⟨#[]⟩ ai ai bcs (.slice fb l.length fd)) from RX7.out.set 1 _)
   have RZ8:=Hd (show aq 58 (v7.setCell ⟨g,1,none⟩ (.slice ad sl.length cp)) (w.heap.size+1) aB from RZ7.out.setOther (by omega) _ _)
   have HB8:=Hd (show Below w.heap.size w (v7.setCell ⟨g,1,none⟩ (.slice ad sl.length cp)) from bD HB7.out (by omega) _)
   have t1:=RX7.out.cell (jK 1 (.slice none 0 0) ⟨#[]⟩ ai ai bcs (.slice fb l.length fd))
   have tf1:=RX7.out.frozen 1
   clear hsafe HO7
   cases k7
   ·have HN:=Hd (show cy x=none by rw [HPL.out,HS7.out];rfl)
    go_wp2_with ((with_reducible show wpList _ _ _ (⟨none,.store 58 (.tmp 2) (.tmp 94),_,_,_,_⟩::_) _ _);refine aD rfl 58 _ _ rfl (w.heap.size+1) 0 aB rfl rfl 58 aB aB RZ8.out aO rfl (Nat.le_refl 55) (dM w 0 0).one ?_)
    refine bodyPost_ret (ap rfl _ _ (w.heap.size+1) 58 aB.toArray (0,0) _ rfl (RZ8.out.setRow aB) Tryz.underlying58 rfl aO) rfl ?_
    exact dI.no h0 HN.out (below_setRow HB8.out (by omega) _)
   ·have hok:cQ (dZ 47 e)=some sl:=by rw [HS7.out];rfl
    have HL48:=Hd (gr hok)
    have HN:=Hd (show cy x=some ⟨1,sl,⟨#[]⟩,fG,fG,d⟩ by rw [HPL.out,hok];rfl)
    have hpl:((ao 1 (.slice ad sl.length cp) ⟨#[]⟩ ai ai bcs (.slice fb l.length fd)):List Value).length=55:=bl _ _ _ _ rfl rfl HBL.out
    have hp1:=Hd (show (Tryz.prog.info? 58).map (·.size)=some ((ao 1 (.slice ad sl.length cp) ⟨#[]⟩ ai ai bcs (.slice fb l.length fd)):List Value).length by rw [hpl];exact aO)
    have hp2:=Hd (show (Tryz.prog.info? 58).map (·.size)=some ((ao 1 (.slice ad sl.length cp) ⟨#[]⟩ ai ai bcs (.slice fb l.length fd)):List Value).toArray.size by rw [List.size_toArray,hpl];exact aO)
    have hp3:=Hd (show aB.toArray.size=((ao 1 (.slice ad sl.length cp) ⟨#[]⟩ ai ai bcs (.slice fb l.length fd)):List Value).toArray.size by show 55=_;rw [List.size_toArray,hpl])
    have hp4:=Hd (show ((ao 1 (.slice ad sl.length cp) ⟨#[]⟩ ai ai bcs (.slice fb l.length fd)):List Value).toArray.all (·.oneCell')=true from Go.all_oneCell_toArray (cB rfl (bu w 0 0).one (bu w 0 0).one HBO.out rfl))
    clear hpl hok
    go_wp2_with (first
     | ((with_reducible show wpList _ _ _ (⟨some 95,_,_,_,_,_⟩::_) _ _);refine wpList_load_mid rfl 58 _ rfl g 0 rfl (ao 1 (.slice ad sl.length cp) ⟨#[]⟩ ai ai bcs (.slice fb l.length fd)) _ RX8.out.range Tryz.underlying58 rfl hp1.out ?_)
     | ((with_reducible show wpList _ _ _ (⟨none,.store 58 (.tmp 2) (.tmp 95),_,_,_,_⟩::_) _ _);refine wpList_store_row rfl 58 _ _ rfl (w.heap.size+1) ((ao 1 (.slice ad sl.length cp) ⟨#[]⟩ ai ai bcs (.slice fb l.length fd)):List Value).toArray rfl rfl 58 aB.toArray RZ8.out hp2.out hp3.out hp4.out ?_))
    refine bodyPost_ret (ap rfl _ _ (w.heap.size+1) 58 ((ao 1 (.slice ad sl.length cp) ⟨#[]⟩ ai ai bcs (.slice fb l.length fd)):List Value).toArray (0,0) _ rfl (RZ8.out.setRow (ao 1 (.slice ad sl.length cp) ⟨#[]⟩ ai ai bcs (.slice fb l.length fd))) Tryz.underlying58 rfl hp2.out) rfl ?_
    have HB9:=Hd (show Below w.heap.size w ((v7.setCell ⟨g,1,none⟩ (.slice ad sl.length cp)).setRow (w.heap.size+1) ((ao 1 (.slice ad sl.length cp) ⟨#[]⟩ ai ai bcs (.slice fb l.length fd)):List Value).toArray) from below_setRow HB8.out (by omega) _)
    have HB9':=Hd (HB9.out.mono hB)
    refine dI.yes h0 HN.out ⟨ad,cp,_,_,_,fb,fd,rfl,HL48.out,(show (0:Nat)≤N by omega),hln,?_,?_,?_,?_,?_⟩ HB9.out
    ·refine HSF.out _ ⟨by rw [setRow_size];simp,fun k h1 _ _=>?_⟩
     have hq:=hgw.out
     rw [setRow_other _ _ _ _ (by omega),heap_setCell_other _ _ _ _ (by simp;omega)]
    ·exact bu _ _ _
    ·exact bu _ _ _
    ·exact ((LE7.out.cell (.inl rfl)).lowRow hwz).here HB9'.out
    ·exact ((LF7.out.cell (.inl rfl)).lowRow hwz).here HB9'.out
theorem Bu (l:List al) (x:ag) (fa:Option Addr) (fc:Nat) (ms cs:List Value) (w:World) (B N:Nat) (hN:N≤1048576) (h4:4≤B) (hB:B≤w.heap.size) (hE:Env w) (hT:cI w) (hsl:gY l) (hsx:cc x) (hln:l.length≤N) (hA:av w B N l fa) (hx:ag.At w B N x ms) (hcs:cs=.slice fa l.length fc::ms):Calls Tryz.prog 18 #[.agg cs.toArray] w (dI N l x w):=by
 by_cases h0:dP l x=0
 ·exact Bt l x fa fc ms cs w B N hN h4 hB hE hT hsl hsx hln hA hx hcs h0
 ·exact zx l x fa fc ms cs w B N hN h4 hB hE hT hsl hsx hln hA hx hcs h0
end Go.Proofs.YtiefeajappjnbaaGreatDoor
