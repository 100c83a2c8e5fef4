/- The reference's fields in the order of their keys (datakitref07.Fields): the walk. -/
import Derived.Test.YtniljgkkcnekgaaGreatDoorProg
import Derived.Test.YtniljgkkcnekgaaGreatDoorGA
import Derived.Test.YtniljgkkcnekgaaGreatDoorGB
import Derived.Test.YtniljgkkcnekgaaGreatDoorGC
import Derived.Test.YtniljgkkcnekgaaGreatDoorSA
import Derived.Test.YtniljgkkcnekgaaGreatDoorSD
import Derived.Deep.DeepMust
namespace Go.Proofs.YtniljgkkcnekgaaGreatDoor
namespace Stb
end Stb
open Go.RowKit Stb
def RowsQ (w:World) (B N H:Nat) (M:List (ByteArray×ValD)) (a:Option Addr) (c:World):Prop :=
 M=[]∨∃ (b o:Nat) (f:Nat→List Value),a=some ⟨b,o,none⟩∧H≤b∧b<c.heap.size∧FldQ w B N M f∧∀ k,k<M.length→CellsAt c b (o+k * 14) (f k)
theorem RowsQ.keep {w c d:World} {B N H:Nat} {M:List (ByteArray×ValD)} {a:Option Addr} (h:RowsQ w B N H M a c) (hb:∀ b,H≤b→b<c.heap.size→d.heap[b]?=c.heap[b]?) (hs:c.heap.size≤d.heap.size):RowsQ w B N H M a d:=by
 rcases h with h | ⟨b,o,f,h1,h2,h3,h4,h5⟩
 ·exact .inl h
 ·refine .inr ⟨b,o,f,h1,h2,Nat.lt_of_lt_of_le h3 hs,h4,fun k hk j hj=>?_⟩
  rw [← h5 k hk j hj]
  simp only [World.cell?]
  rw [hb b h2 h3]
theorem RowsQ.below {w c d:World} {B N H:Nat} {M:List (ByteArray×ValD)} {a:Option Addr} (h:RowsQ w B N H M a c) (hb:Below c.heap.size c d):RowsQ w B N H M a d:=h.keep (fun b _ hl=>hb.block b hl) hb.size
theorem RowsQ.fields {w c:World} {B N H:Nat} {M:List (ByteArray×ValD)} {a:Option Addr} (h:RowsQ w B N H M a c) (hb:Below B w c) (hB:B≤c.heap.size):FieldsAt c c.heap.size N M a:=by
 rcases h with h | ⟨b,o,f,h1,h2,h3,h4,h5⟩
 ·subst h;trivial
 ·subst h1
  refine FieldsAt_of' h3 M o fun i hi=>?_
  obtain ⟨cs,e1,e2,e3⟩:=h4 i hi
  exact ⟨cs,e2,by rw [← e1];exact h5 i hi,(e3.below hb).mono hB⟩
theorem ins_ownQ {w w3:World} {B N base i k:Nat} {L:List (ByteArray×ValD)} {e:ByteArray×ValD} {v3:Value} {f:Nat→List Value} {x xs fl1 fl3:List Value} (h:w3.ownsRow base 76 14 v3 (k+1+(i-k)) (fl1++x++fl3))
 (hbs:w.heap.size≤base) (hf:FldQ w B N L f) (hx:x=.string e.1::xs) (hk1:e.1.size≤N) (hv:ValD.At w B N e.2 xs) (hL:L.length=i) (hk:k≤i)
 (h1:fl1=flatR k f) (h3:fl3=flatR (i-k) (fun j=>f (k+j))) (hi:insF e L=L.take k++e::L.drop k):∃ a c,v3=.slice a (i+1) c∧(i+1≤c∧c≤maxLen)∧RowsQ w B N w.heap.size (insF e L) a w3:=by
 subst h1
 subst h3
 rw [flatR_ins,show k+1+(i-k)=i+1 by omega] at h
 have hlen:(insF e L).length=i+1:=by rw [(insF_perm e L).length_eq,List.length_cons,hL]
 obtain ⟨g,hg⟩:∃ g:Nat→List Value,g=fun j=>if j<k then f j else if j=k then x else f (k+(j-(k+1))):=⟨_,rfl⟩
 rw [← hg] at h
 have hrow:FldQ w B N (insF e L) g:=by
  intro q hq
  have hq2:q<i+1:=by omega
  by_cases c1:q<k
  ·obtain ⟨ys,y1,y2,y3⟩:=hf q (by omega)
   have e1:(insF e L)[q]=L[q]'(by omega):=by
    simp only [hi]
    rw [List.getElem_append_left (by rw [List.length_take];omega),List.getElem_take]
   rw [e1]
   exact ⟨ys,by rw [hg];simp only [c1,if_true];exact y1,y2,y3⟩
  ·by_cases c2:q=k
   ·subst c2
    have e1:(insF e L)[q]=e:=by
     simp only [hi]
     rw [List.getElem_append_right (by rw [List.length_take];omega)]
     simp [List.length_take,hL,hk]
    rw [e1]
    exact ⟨xs,by rw [hg];simp only [Nat.lt_irrefl,if_false,if_true];exact hx,hk1,hv⟩
   ·obtain ⟨ys,y1,y2,y3⟩:=hf (q-1) (by omega)
    have e1:(insF e L)[q]=L[q-1]'(by omega):=by
     simp only [hi]
     rw [List.getElem_append_right (by rw [List.length_take];omega)]
     simp only [List.length_take,hL,Nat.min_eq_left hk]
     obtain ⟨d,hd⟩:∃ d,q-k=d+1:=⟨q-k-1,by omega⟩
     simp only [hd,List.getElem_cons_succ,List.getElem_drop]
     congr 1
     omega
    rw [e1]
    exact ⟨ys,by rw [hg];simp only [c1,c2,if_false];rw [show k+(q-(k+1))=q-1 by omega];exact y1,y2,y3⟩
 rcases h.2 with ⟨_,h5⟩ | ⟨q,cap,cur,rfl,h5,h6,h7,h8,h9,h10⟩
 ·omega
 ·refine ⟨some ⟨q,0,none⟩,cap,rfl,⟨h7,h8⟩,?_⟩
  have hR:RowT 76 w3 q (flatR (insF e L).length g++cur.toList.drop ((i+1) * 14)):=by
   unfold RowT
   rw [h6,hlen,← h10,List.take_append_drop]
  refine .inr ⟨q,0,g,rfl,Nat.le_trans hbs h5,hR.lt,hrow,fun k hk=>?_⟩
  rw [Nat.zero_add]
  exact cellsOfRange (RowsF.range ⟨hR,hrow.len,hrow.one,fun k hk=>(hrow.key k hk).2⟩ hk)
def SorQ (B N:Nat) (l:List (ByteArray×ValD)) (w:World) (e:Ending) (w':World):Prop:=∃ a c,e=.returned (.slice a l.length c)∧Below w.heap.size w w'∧RowsQ w B N w.heap.size (sortF l) a w'
set_option maxRecDepth 100000 in
set_option maxHeartbeats 6400000 in
theorem fields_q (l:List (ByteArray×ValD)) (a:Option Addr) (c B N:Nat) (w:World) (hN:N≤4294967296) (hB:B≤w.heap.size) (hlN:l.length≤N) (hf:FieldsAt w B N l a) :
 Calls Tryz.prog 40 #[.slice a l.length c] w (SorQ B N l w):=by
 obtain ⟨z,hzs,hinfo⟩:=infoF
 obtain ⟨i0,hi,hz0,hz1,hz2⟩:=info_parts hinfo
 have HI:=Hd hi
 have HZ0:=Hd hz0
 have HZ1:=Hd hz1
 have HZ2:=Hd hz2
 have HZS:=Hd hzs
 clear hi hz0 hz1 hz2 hinfo hzs
 have HFA:=Hd hf
 clear hf
 go_enter Tryz.func40,Tryz.ntmps40
 go_wp2_with fail
 go_loopw [3,4] (fun v x wr=>∃ (i:Nat) (a':Option Addr) (c':Nat),v=.slice a' i c'∧i≤c'∧c'≤maxLen∧x=.int .i64 i∧i≤l.length∧Below w.heap.size w wr∧RowsQ w B N w.heap.size (sortF (l.take i)) a' wr∧(i=0→a'=none∧c'=0)) (fun _ x _=>l.length-(intOf x).toNat)
 case atStart=>exact ⟨0,none,0,rfl,Nat.le_refl _,Nat.zero_le _,rfl,Nat.zero_le _,Below.refl _ _,.inl rfl,fun _=>⟨rfl,rfl⟩⟩
 case round =>
  obtain ⟨i,a',c',rfl,hic,hcm,rfl,hil,hbw,hfo,h0⟩:=hrel
  have HB:=Hd hbw
  have HFO:=Hd hfo
  have HM:=Hd hcm
  clear hbw hfo hcm
  obtain ⟨wa,hwa⟩:∃ wa,wa=wr:=⟨_,rfl⟩
  subst wr
  by_cases hlt:i<l.length
  ·obtain ⟨L,hL⟩:∃ L,L=sortF (l.take i):=⟨_,rfl⟩
   rw [← hL] at HFO
   have hLl:L.length=i:=by rw [hL,sortF_len,List.length_take];omega
   have HL:=Hd (show sortF (l.take (i+1))=insF l[i] L by rw [hL];exact sortF_take l hlt)
   have HLL:=Hd hLl
   clear hL hLl
   obtain ⟨b0,o0,f0,rfl,hb0,hf0,hc0⟩:=HFA.out.rows (l:=l) (by intro h;rw [h] at hlt;simp at hlt)
   obtain ⟨x,hx⟩:∃ x,x=f0 i:=⟨_,rfl⟩
   obtain ⟨xs,hxs,hxk,hxv⟩:=hf0 i hlt
   rw [← hx] at hxs
   have HX:=Hd hxs
   have HXK:=Hd hxk
   have HXV:=Hd hxv
   have X14:=Hd (show x.length=14 by rw [hx];exact hf0.len i hlt)
   have X1:=Hd (show ∀ v∈x,v.oneCell'=true by rw [hx];exact hf0.one i hlt)
   have XC:=Hd (show CellsAt wa b0 (o0+i * 14) x by rw [hx];exact (hc0 i hlt).below (HB.out.mono hB) hb0)
   obtain ⟨key,hkey⟩:∃ key,key=l[i].1:=⟨_,rfl⟩
   have KX:=Hd (show wa.cell? ⟨b0,o0+i * 14,none⟩=some (.string key) by
    have:=XC.out 0 (by rw [X14.out];decide)
    rw [Nat.add_zero,HX.out] at this
    rw [this,hkey]
    rfl)
   have HKEY:=Hd hkey
   clear hx hxs hxk hxv hf0 hc0 hkey
   by_cases hi0:i=0
   ·obtain ⟨rfl,rfl⟩:=h0 hi0
    subst hi0
    have HF1:=Hd (show FldQ w B N L (fun _=>[]) from fun q hq=>by have:=HLL.out;omega)
    have HI9:=Hd (insF_at l[0] L 0 (Nat.zero_le _) (fun j hj h=>by omega) (fun h=>by have:=HLL.out;omega))
    go_wp2_with fail
    go_loopw [5] (fun y wq=>y=.int .i64 0∧wq=wa) (fun _ _=>0)
    case atStart=>exact ⟨rfl,rfl⟩
    case round =>
     obtain ⟨rfl,hwq⟩:=hrel
     subst wr
     go_wp2_with fail
     go_quiet (fail)
     obtain ⟨wt,hwt⟩:∃ wt,wt=wa.drewN nq:=⟨_,rfl⟩
     rw [← hwt]
     have HBT:=Hd (show Below wa.heap.size wa wt by rw [hwt];exact drewNU _ _)
     clear hwt
     have hbw:=HBT.out.size
     go_upto_region 9 with (at_builtin;refine wpList_append_nil rfl _ _ 37 rfl wt.heap.size 76 i0 14 Tryz.underlying37 HI.out _ 0 [] rfl (World.ownsRow_made wt #[] 0 (Nat.le_refl _) (Nat.zero_le _) rfl) _ rfl ?_)
     obtain ⟨w1,hw1⟩:∃ w1,w1=wt.alloc (.cells #[] 76):=⟨_,rfl⟩
     have HOWN1:=Hd (show w1.ownsRow wt.heap.size 76 14 (.slice (some ⟨wt.heap.size,0,none⟩) 0 0) 0 [] by rw [hw1];exact World.ownsRow_made wt #[] 0 (Nat.le_refl _) (Nat.zero_le _) rfl)
     have HB1:=Hd (show Below wt.heap.size wt w1 by rw [hw1];exact belowBox wt _)
     rw [← hw1]
     clear hw1
     have hs1:=HB1.out.size
     have XC1:=Hd (XC.out.below (HBT.out.trans (HB1.out.mono hbw)) (Nat.lt_of_lt_of_le hb0 (Nat.le_trans hB HB.out.size)))
     go_wp2_with (first
      | ((with_reducible show wpList _ _ _ (⟨some 41,_,_,_,_,_⟩::_) _ _);go_must (refine wpList_load_mid rfl 76 _ rfl b0 (o0+0 * 14) (by first | rfl | (simp;rfl)) x _ XC1.out.range Tryz.underlying76 rfl (sizeFLD14 X14.out) ?_))
      | ((with_reducible show wpList _ _ _ (⟨some 42,_,_,_,_,_⟩::_) _ _);go_must (refine wpList_rowsF rfl [x] x (by simp) 1 _ rfl rfl (by decide) (by decide) (by intro r hr;simp at hr;rw [hr];exact X14.out) (by rw [List.map_toArray];rfl) ?_))
      | (at_builtin;refine wpList_append_own _ rfl _ _ 37 rfl wt.heap.size 76 i0 (.agg z) 14 184 Tryz.underlying37 HI.out HZ0.out HZ1.out HZ2.out HZS.out (by decide) _ _ _ rfl (HOWN1.out.alloc _) ⟨w1.heap.size,0,none⟩ 1 1 x rfl (by rw [X14.out]) (new_cells w1 x _) X1.out ?sb4 ?sb5 ?sb6 ?_))
     case sb4=>unfold maxLen;omega
     case sb5=>omega
     case sb6=>rw [World.size_alloc];omega
     intro v2 w2 hown2 hgrow2 _
     have HB2:=Hd (show Below wt.heap.size w1 w2 from (belowBox' w1 _ hs1).grown hgrow2 (by rw [World.size_alloc];omega) (fun q hq=>(HOWN1.out.lt q hq).1))
     have HOWN2:=Hd (show w2.ownsRow wt.heap.size 76 14 v2 1 x by simpa using hown2)
     clear hown2 hgrow2
     have hs2:=HB2.out.size
     have HB4:=Hd (show Below wa.heap.size wa w2 from HBT.out.trans ((HB1.out.mono hbw).trans (HB2.out.mono hbw)))
     have HV:=Hd (ins_ownQ (fl1:=[]) (fl3:=[]) (k:=0) (i:=0) (by simpa using HOWN2.out) (by have:=HB.out.size;omega) HF1.out HX.out HXK.out HXV.out HLL.out (Nat.le_refl _) rfl rfl HI9.out)
     obtain ⟨a3,c3,hv3,hcap3,hf3⟩:=HV.out
     subst hv3
     have HF3:=Hd hf3
     have HC3:=Hd hcap3
     clear HV hf3 hcap3
     go_wp2_with (at_builtin;refine wpList_append_nil rfl _ _ 37 rfl wt.heap.size 76 i0 14 Tryz.underlying37 HI.out _ 1 x rfl HOWN2.out _ rfl ?_)
     go_roundw
     case rel=>exact ⟨1,a3,c3,by rfl,HC3.out.1,HC3.out.2,by go_num,by omega,HB.out.trans (HB4.out.mono HB.out.size),by rw [HL.out];exact HF3.out,fun h=>by omega⟩
     case measure=>simp [intOf];omega
   ·clear h0
    obtain ⟨b1,o1,f,rfl,_,hb1,hf1,hc1⟩:=HFO.out.resolve_left (by intro h;have:=HLL.out;rw [h] at this;simp at this;omega)
    have HF1:=Hd hf1
    have HC1:=Hd (show ∀ k,k<i→CellsAt wa b1 (o1+k * 14) (f k) from fun k hk=>hc1 k (by have:=HLL.out;omega))
    have hnl:=HLL.out
    have KL:=Hd (show ∀ k (hk:k<L.length),wa.cell? ⟨b1,o1+k * 14,none⟩=some (.string L[k].1) from fun k hk=>by
     have h5:=HC1.out k (by omega) 0 (by rw [hf1.len k hk];decide)
     obtain ⟨ys,e,_⟩:=hf1 k hk
     rw [Nat.add_zero,e] at h5
     rw [h5]
     rfl)
    clear hf1 hc1 hnl
    go_wp2_with fail
    go_loopw [5] (fun y wq=>∃ k:Nat,y=.int .i64 k∧k≤i∧Below wa.heap.size wa wq∧∀ j (hj:j<L.length),j<k→LeF L[j] l[i]) (fun y _=>i-(intOf y).toNat)
    case atStart=>exact ⟨0,rfl,Nat.zero_le _,Below.refl _ _,fun j hj h=>by omega⟩
    case round =>
     obtain ⟨k,rfl,hki,hbq,hlo⟩:=hrel
     have HBQ:=Hd hbq
     have HLO:=Hd hlo
     clear hbq hlo
     by_cases hk:k<i
     ·have hkL:k<L.length:=by have:=HLL.out;omega
      obtain ⟨sk,hsk⟩:∃ sk,sk=L[k].1:=⟨_,rfl⟩
      have HSK:=Hd hsk
      have g1:=(HBQ.out.cell (p:=⟨b1,o1+k * 14,none⟩) hb1).trans ((KL.out k hkL).trans (by rw [← hsk]))
      have g2:=(HBQ.out.cell (p:=⟨b0,o0+i * 14,none⟩) (show b0<wa.heap.size from Nat.lt_of_lt_of_le hb0 (Nat.le_trans hB HB.out.size))).trans KX.out
      clear hsk
      go_wp2_with fail
      go_quiet (fail)
      obtain ⟨t,ht⟩:∃ t,t=(Op.bytesLess sk.toList key.toList || sk.toList==key.toList):=⟨_,rfl⟩
      rw [← ht]
      have HT:=Hd (show t=decide (¬ l[i].1.data.toList<L[k].1.data.toList) by rw [ht,leq_F,HSK.out,HKEY.out])
      clear ht g1 g2
      cases t with
      | true =>
        have h5:=Hd (show LeF L[k] l[i] from (by unfold LeF;exact of_decide_eq_true HT.out.symm))
        go_wp2_with fail
        go_roundw
        case rel=>exact ⟨k+1,by go_num,by omega,HBQ.out.trans (drewNU _ _),fun j hj h6=>by
         rcases Nat.lt_or_ge j k with h7 | h7
         ·exact HLO.out j hj h7
         ·obtain rfl:j=k:=by omega
          exact h5.out⟩
        case measure=>simp [intOf];omega
      | false =>
        have HNO:=Hd (show ∀ h:k<L.length,¬ LeF L[k] l[i] from fun _=>(by unfold LeF;exact of_decide_eq_false HT.out.symm))
        have hk2:k≤i:=by omega
        clear HT hk HSK
        obtain ⟨wt,hwt⟩:∃ wt,wt=wr.drewN nq:=⟨_,rfl⟩
        rw [← hwt]
        have HBT:=Hd (show Below wa.heap.size wa wt by rw [hwt];exact HBQ.out.trans (drewNU _ _))
        clear hwt HBQ
        have hbw:=HBT.out.size
        obtain ⟨fl1,hfl1⟩:∃ fl1,fl1=flatR k f:=⟨_,rfl⟩
        have HL1:=Hd (show fl1.length=k * 14 by rw [hfl1];exact flatR_len fun j hj=>HF1.out.len j (by have:=HLL.out;omega))
        have HO1:=Hd (show ∀ u∈fl1,u.oneCell'=true by rw [hfl1];exact flat_one fun j hj=>HF1.out.one j (by have:=HLL.out;omega))
        have HN1:=Hd (show ∀ w':World,Below wa.heap.size wa w'→∀ j u,fl1[j]?=some u→w'.cell? (Addr.add ⟨b1,o1,none⟩ j)=some u from fun w' hw j u hu=>by
         rw [Addr.add_mid]
         rw [hfl1] at hu
         exact flat_cell (fun q hq=>HF1.out.len q (by have:=HLL.out;omega)) (fun q hq=>(HC1.out q (by omega)).below hw hb1) j u hu)
        have HFL1:=Hd hfl1
        obtain ⟨fl3,hfl3⟩:∃ fl3,fl3=flatR (i-k) (fun j=>f (k+j)):=⟨_,rfl⟩
        have HL3:=Hd (show fl3.length=(i-k) * 14 by rw [hfl3];exact flatR_len fun j hj=>HF1.out.len _ (by have:=HLL.out;omega))
        have HO3:=Hd (show ∀ u∈fl3,u.oneCell'=true by rw [hfl3];exact flat_one fun j hj=>HF1.out.one _ (by have:=HLL.out;omega))
        have HN3:=Hd (show ∀ w':World,Below wa.heap.size wa w'→∀ j u,fl3[j]?=some u→w'.cell? (Addr.add ⟨b1,o1+k * 14,none⟩ j)=some u from fun w' hw j u hu=>by
         rw [Addr.add_mid]
         rw [hfl3] at hu
         exact flat_cell (o:=o1+k * 14) (fun q hq=>HF1.out.len _ (by have:=HLL.out;omega)) (cells_part (n:=i) (fun q hq=>(HC1.out q hq).below hw hb1) (by omega)) j u hu)
        have HFL3:=Hd hfl3
        clear hfl1 hfl3
        go_wp2_with (at_builtin;refine wpList_append_own _ rfl _ _ 37 rfl wt.heap.size 76 i0 (.agg z) 14 184 Tryz.underlying37 HI.out HZ0.out HZ1.out HZ2.out HZS.out (by decide) _ _ _ rfl (World.ownsRow_made wt #[] 0 (Nat.le_refl _) (Nat.zero_le _) rfl) ⟨b1,o1,none⟩ k c' fl1 rfl HL1.out (HN1.out _ (HBT.out.trans (belowBox' wt _ hbw))) HO1.out ?qa4 ?qa5 ?qa6 ?_)
        case qa4=>unfold maxLen;omega
        case qa5=>omega
        case qa6=>simp
        intro v1 w1 hown1 hgrow1 _
        have HB1:=Hd (show Below wt.heap.size wt w1 from (belowBox wt _).grown hgrow1 (by simp) (by intro q hq;simp [Value.ownBlock] at hq;omega))
        have HOWN1:=Hd (show w1.ownsRow wt.heap.size 76 14 v1 k fl1 by simpa using hown1)
        clear hown1 hgrow1
        have hs1:=HB1.out.size
        have XC1:=Hd (XC.out.below (HBT.out.trans (HB1.out.mono hbw)) (Nat.lt_of_lt_of_le hb0 (Nat.le_trans hB HB.out.size)))
        go_wp2_with (first
         | ((with_reducible show wpList _ _ _ (⟨some 41,_,_,_,_,_⟩::_) _ _);refine wpList_load_mid rfl 76 _ rfl b0 (o0+i * 14) rfl x _ XC1.out.range Tryz.underlying76 rfl (sizeFLD14 X14.out) ?_)
         | ((with_reducible show wpList _ _ _ (⟨some 42,_,_,_,_,_⟩::_) _ _);refine wpList_rowsF rfl [x] x (by simp) 1 _ rfl rfl (by decide) (by decide) (by intro r hr;simp at hr;rw [hr];exact X14.out) (by rw [List.map_toArray];rfl) ?_)
         | (at_builtin;refine wpList_append_own _ rfl _ _ 37 rfl wt.heap.size 76 i0 (.agg z) 14 184 Tryz.underlying37 HI.out HZ0.out HZ1.out HZ2.out HZS.out (by decide) _ _ _ rfl (HOWN1.out.alloc _) ⟨w1.heap.size,0,none⟩ 1 1 x rfl (by rw [X14.out]) (new_cells w1 x _) X1.out ?qb4 ?qb5 ?qb6 ?_))
        case qb4=>unfold maxLen;omega
        case qb5=>omega
        case qb6=>rw [World.size_alloc];omega
        intro v2 w2 hown2 hgrow2 _
        have HB2:=Hd (show Below wt.heap.size w1 w2 from (belowBox' w1 _ hs1).grown hgrow2 (by rw [World.size_alloc];omega) (fun q hq=>(HOWN1.out.lt q hq).1))
        have HOWN2:=Hd (show w2.ownsRow wt.heap.size 76 14 v2 (k+1) (fl1++x) by simpa using hown2)
        clear hown2 hgrow2
        have hs2:=HB2.out.size
        have HBA:=Hd (show Below wa.heap.size wa w2 from HBT.out.trans ((HB1.out.mono hbw).trans (HB2.out.mono hbw)))
        by_cases hkc:k<c'
        ·go_wp2_with (at_builtin;go_must (refine wpList_append_own _ rfl _ _ 37 rfl wt.heap.size 76 i0 (.agg z) 14 184 Tryz.underlying37 HI.out HZ0.out HZ1.out HZ2.out HZS.out (by decide) _ _ _ rfl HOWN2.out ⟨b1,o1+k * 14,none⟩ (i-k) _ fl3 rfl HL3.out (HN3.out _ HBA.out) HO3.out ?qc4 ?qc5 ?qc6 ?_))
         case qc4=>unfold maxLen;omega
         case qc5=>omega
         case qc6=>omega
         intro v3 w3 hown3 hgrow3 _
         have HB3:=Hd (show Below wt.heap.size w2 w3 from (Below.refl _ _).grown hgrow3 (Nat.le_trans hs1 hs2) (fun q hq=>(HOWN2.out.lt q hq).1))
         have HOWN3:=Hd (show w3.ownsRow wt.heap.size 76 14 v3 (k+1+(i-k)) (fl1++x++fl3) by simpa using hown3)
         clear hown3 hgrow3
         have HB4:=Hd (show Below wa.heap.size wa w3 from HBA.out.trans (HB3.out.mono hbw))
         have HV:=Hd (ins_ownQ HOWN3.out (by have:=HB.out.size;omega) HF1.out HX.out HXK.out HXV.out HLL.out hk2 HFL1.out HFL3.out (insF_at l[i] L k (by have:=HLL.out;omega) HLO.out HNO.out))
         obtain ⟨a3,c3,hv3,hcap3,hf3⟩:=HV.out
         subst hv3
         have HF3:=Hd hf3
         have HC3:=Hd hcap3
         clear HV hf3 hcap3
         go_wp2_with fail
         go_roundw
         case rel=>exact ⟨i+1,a3,c3,by rfl,HC3.out.1,HC3.out.2,by go_num,by omega,HB.out.trans (HB4.out.mono HB.out.size),by rw [HL.out];exact HF3.out,fun h=>by omega⟩
         case measure=>simp [intOf];omega
        ·have hki3:i-k=0:=by omega
         go_wp2_with (at_builtin;go_must (refine wpList_append_own _ rfl _ _ 37 rfl wt.heap.size 76 i0 (.agg z) 14 184 Tryz.underlying37 HI.out HZ0.out HZ1.out HZ2.out HZS.out (by decide) _ _ _ rfl HOWN2.out _ 0 _ fl3 rfl (by rw [HL3.out,hki3]) (fun j u hu=>by have h5:=HL3.out;rw [hki3] at h5;rw [List.eq_nil_of_length_eq_zero (by omega:fl3.length=0)] at hu;simp at hu) HO3.out ?qd4 ?qd5 ?qd6 ?_))
         case qd4=>unfold maxLen;omega
         case qd5=>omega
         case qd6=>omega
         intro v3 w3 hown3 hgrow3 _
         have HB3:=Hd (show Below wt.heap.size w2 w3 from (Below.refl _ _).grown hgrow3 (Nat.le_trans hs1 hs2) (fun q hq=>(HOWN2.out.lt q hq).1))
         have HOWN3:=Hd (show w3.ownsRow wt.heap.size 76 14 v3 (k+1+(i-k)) (fl1++x++fl3) by rw [hki3];simpa using hown3)
         clear hown3 hgrow3 hki3
         have HB4:=Hd (show Below wa.heap.size wa w3 from HBA.out.trans (HB3.out.mono hbw))
         have HV:=Hd (ins_ownQ HOWN3.out (by have:=HB.out.size;omega) HF1.out HX.out HXK.out HXV.out HLL.out hk2 HFL1.out HFL3.out (insF_at l[i] L k (by have:=HLL.out;omega) HLO.out HNO.out))
         obtain ⟨a3,c3,hv3,hcap3,hf3⟩:=HV.out
         subst hv3
         have HF3:=Hd hf3
         have HC3:=Hd hcap3
         clear HV hf3 hcap3
         go_wp2_with fail
         go_roundw
         case rel=>exact ⟨i+1,a3,c3,by rfl,HC3.out.1,HC3.out.2,by go_num,by omega,HB.out.trans (HB4.out.mono HB.out.size),by rw [HL.out];exact HF3.out,fun h=>by omega⟩
         case measure=>simp [intOf];omega
     ·have hki2:=Hd (show k=i by omega)
      have HNO:=Hd (show ∀ h:k<L.length,¬ LeF L[k] l[i] from fun h=>by have:=HLL.out;have:=hki2.out;omega)
      have hk2:k≤i:=hki
      have hkf:decide ((k:Int)<(i:Int))=false:=by simp;omega
      go_wp2_with fail
      go_quiet (fail)
      clear hki2 hkf
      obtain ⟨wt,hwt⟩:∃ wt,wt=wr.drewN nq:=⟨_,rfl⟩
      rw [← hwt]
      have HBT:=Hd (show Below wa.heap.size wa wt by rw [hwt];exact HBQ.out.trans (drewNU _ _))
      clear hwt HBQ
      have hbw:=HBT.out.size
      obtain ⟨fl1,hfl1⟩:∃ fl1,fl1=flatR k f:=⟨_,rfl⟩
      have HL1:=Hd (show fl1.length=k * 14 by rw [hfl1];exact flatR_len fun j hj=>HF1.out.len j (by have:=HLL.out;omega))
      have HO1:=Hd (show ∀ u∈fl1,u.oneCell'=true by rw [hfl1];exact flat_one fun j hj=>HF1.out.one j (by have:=HLL.out;omega))
      have HN1:=Hd (show ∀ w':World,Below wa.heap.size wa w'→∀ j u,fl1[j]?=some u→w'.cell? (Addr.add ⟨b1,o1,none⟩ j)=some u from fun w' hw j u hu=>by
       rw [Addr.add_mid]
       rw [hfl1] at hu
       exact flat_cell (fun q hq=>HF1.out.len q (by have:=HLL.out;omega)) (fun q hq=>(HC1.out q (by omega)).below hw hb1) j u hu)
      have HFL1:=Hd hfl1
      obtain ⟨fl3,hfl3⟩:∃ fl3,fl3=flatR (i-k) (fun j=>f (k+j)):=⟨_,rfl⟩
      have HL3:=Hd (show fl3.length=(i-k) * 14 by rw [hfl3];exact flatR_len fun j hj=>HF1.out.len _ (by have:=HLL.out;omega))
      have HO3:=Hd (show ∀ u∈fl3,u.oneCell'=true by rw [hfl3];exact flat_one fun j hj=>HF1.out.one _ (by have:=HLL.out;omega))
      have HN3:=Hd (show ∀ w':World,Below wa.heap.size wa w'→∀ j u,fl3[j]?=some u→w'.cell? (Addr.add ⟨b1,o1+k * 14,none⟩ j)=some u from fun w' hw j u hu=>by
       rw [Addr.add_mid]
       rw [hfl3] at hu
       exact flat_cell (o:=o1+k * 14) (fun q hq=>HF1.out.len _ (by have:=HLL.out;omega)) (cells_part (n:=i) (fun q hq=>(HC1.out q hq).below hw hb1) (by omega)) j u hu)
      have HFL3:=Hd hfl3
      clear hfl1 hfl3
      go_wp2_with (at_builtin;refine wpList_append_own _ rfl _ _ 37 rfl wt.heap.size 76 i0 (.agg z) 14 184 Tryz.underlying37 HI.out HZ0.out HZ1.out HZ2.out HZS.out (by decide) _ _ _ rfl (World.ownsRow_made wt #[] 0 (Nat.le_refl _) (Nat.zero_le _) rfl) ⟨b1,o1,none⟩ k c' fl1 rfl HL1.out (HN1.out _ (HBT.out.trans (belowBox' wt _ hbw))) HO1.out ?ra4 ?ra5 ?ra6 ?_)
      case ra4=>unfold maxLen;omega
      case ra5=>omega
      case ra6=>simp
      intro v1 w1 hown1 hgrow1 _
      have HB1:=Hd (show Below wt.heap.size wt w1 from (belowBox wt _).grown hgrow1 (by simp) (by intro q hq;simp [Value.ownBlock] at hq;omega))
      have HOWN1:=Hd (show w1.ownsRow wt.heap.size 76 14 v1 k fl1 by simpa using hown1)
      clear hown1 hgrow1
      have hs1:=HB1.out.size
      have XC1:=Hd (XC.out.below (HBT.out.trans (HB1.out.mono hbw)) (Nat.lt_of_lt_of_le hb0 (Nat.le_trans hB HB.out.size)))
      go_wp2_with (first
       | ((with_reducible show wpList _ _ _ (⟨some 41,_,_,_,_,_⟩::_) _ _);refine wpList_load_mid rfl 76 _ rfl b0 (o0+i * 14) rfl x _ XC1.out.range Tryz.underlying76 rfl (sizeFLD14 X14.out) ?_)
       | ((with_reducible show wpList _ _ _ (⟨some 42,_,_,_,_,_⟩::_) _ _);refine wpList_rowsF rfl [x] x (by simp) 1 _ rfl rfl (by decide) (by decide) (by intro r hr;simp at hr;rw [hr];exact X14.out) (by rw [List.map_toArray];rfl) ?_)
       | (at_builtin;refine wpList_append_own _ rfl _ _ 37 rfl wt.heap.size 76 i0 (.agg z) 14 184 Tryz.underlying37 HI.out HZ0.out HZ1.out HZ2.out HZS.out (by decide) _ _ _ rfl (HOWN1.out.alloc _) ⟨w1.heap.size,0,none⟩ 1 1 x rfl (by rw [X14.out]) (new_cells w1 x _) X1.out ?rb4 ?rb5 ?rb6 ?_))
      case rb4=>unfold maxLen;omega
      case rb5=>omega
      case rb6=>rw [World.size_alloc];omega
      intro v2 w2 hown2 hgrow2 _
      have HB2:=Hd (show Below wt.heap.size w1 w2 from (belowBox' w1 _ hs1).grown hgrow2 (by rw [World.size_alloc];omega) (fun q hq=>(HOWN1.out.lt q hq).1))
      have HOWN2:=Hd (show w2.ownsRow wt.heap.size 76 14 v2 (k+1) (fl1++x) by simpa using hown2)
      clear hown2 hgrow2
      have hs2:=HB2.out.size
      have HBA:=Hd (show Below wa.heap.size wa w2 from HBT.out.trans ((HB1.out.mono hbw).trans (HB2.out.mono hbw)))
      by_cases hkc:k<c'
      ·go_wp2_with (at_builtin;go_must (refine wpList_append_own _ rfl _ _ 37 rfl wt.heap.size 76 i0 (.agg z) 14 184 Tryz.underlying37 HI.out HZ0.out HZ1.out HZ2.out HZS.out (by decide) _ _ _ rfl HOWN2.out ⟨b1,o1+k * 14,none⟩ (i-k) _ fl3 rfl HL3.out (HN3.out _ HBA.out) HO3.out ?rc4 ?rc5 ?rc6 ?_))
       case rc4=>unfold maxLen;omega
       case rc5=>omega
       case rc6=>omega
       intro v3 w3 hown3 hgrow3 _
       have HB3:=Hd (show Below wt.heap.size w2 w3 from (Below.refl _ _).grown hgrow3 (Nat.le_trans hs1 hs2) (fun q hq=>(HOWN2.out.lt q hq).1))
       have HOWN3:=Hd (show w3.ownsRow wt.heap.size 76 14 v3 (k+1+(i-k)) (fl1++x++fl3) by simpa using hown3)
       clear hown3 hgrow3
       have HB4:=Hd (show Below wa.heap.size wa w3 from HBA.out.trans (HB3.out.mono hbw))
       have HV:=Hd (ins_ownQ HOWN3.out (by have:=HB.out.size;omega) HF1.out HX.out HXK.out HXV.out HLL.out hk2 HFL1.out HFL3.out (insF_at l[i] L k (by have:=HLL.out;omega) HLO.out HNO.out))
       obtain ⟨a3,c3,hv3,hcap3,hf3⟩:=HV.out
       subst hv3
       have HF3:=Hd hf3
       have HC3:=Hd hcap3
       clear HV hf3 hcap3
       go_wp2_with fail
       go_roundw
       case rel=>exact ⟨i+1,a3,c3,by rfl,HC3.out.1,HC3.out.2,by go_num,by omega,HB.out.trans (HB4.out.mono HB.out.size),by rw [HL.out];exact HF3.out,fun h=>by omega⟩
       case measure=>simp [intOf];omega
      ·have hki3:i-k=0:=by omega
       go_wp2_with (at_builtin;go_must (refine wpList_append_own _ rfl _ _ 37 rfl wt.heap.size 76 i0 (.agg z) 14 184 Tryz.underlying37 HI.out HZ0.out HZ1.out HZ2.out HZS.out (by decide) _ _ _ rfl HOWN2.out _ 0 _ fl3 rfl (by rw [HL3.out,hki3]) (fun j u hu=>by have h5:=HL3.out;rw [hki3] at h5;rw [List.eq_nil_of_length_eq_zero (by omega:fl3.length=0)] at hu;simp at hu) HO3.out ?rd4 ?rd5 ?rd6 ?_))
       case rd4=>unfold maxLen;omega
       case rd5=>omega
       case rd6=>omega
       intro v3 w3 hown3 hgrow3 _
       have HB3:=Hd (show Below wt.heap.size w2 w3 from (Below.refl _ _).grown hgrow3 (Nat.le_trans hs1 hs2) (fun q hq=>(HOWN2.out.lt q hq).1))
       have HOWN3:=Hd (show w3.ownsRow wt.heap.size 76 14 v3 (k+1+(i-k)) (fl1++x++fl3) by rw [hki3];simpa using hown3)
       clear hown3 hgrow3 hki3
       have HB4:=Hd (show Below wa.heap.size wa w3 from HBA.out.trans (HB3.out.mono hbw))
       have HV:=Hd (ins_ownQ HOWN3.out (by have:=HB.out.size;omega) HF1.out HX.out HXK.out HXV.out HLL.out hk2 HFL1.out HFL3.out (insF_at l[i] L k (by have:=HLL.out;omega) HLO.out HNO.out))
       obtain ⟨a3,c3,hv3,hcap3,hf3⟩:=HV.out
       subst hv3
       have HF3:=Hd hf3
       have HC3:=Hd hcap3
       clear HV hf3 hcap3
       go_wp2_with fail
       go_roundw
       case rel=>exact ⟨i+1,a3,c3,by rfl,HC3.out.1,HC3.out.2,by go_num,by omega,HB.out.trans (HB4.out.mono HB.out.size),by rw [HL.out];exact HF3.out,fun h=>by omega⟩
       case measure=>simp [intOf];omega
  ·go_wp2_with fail
   go_ret
   exact ⟨a',c',by rw [show i=l.length by omega];rfl,HB.out,by rw [show i=l.length by omega,List.take_length] at HFO;exact HFO.out⟩
end Go.Proofs.YtniljgkkcnekgaaGreatDoor
