/- The reference's call and pairs. -/
import Derived.Test.YtiefeajappjnbaaGreatDoorGA
import Derived.Test.YtiefeajappjnbaaGreatDoorMD
import Derived.Test.YtiefeajappjnbaaGreatDoorMK
import Derived.Test.YtiefeajappjnbaaGreatDoorMF
import Derived.Test.YtiefeajappjnbaaGreatDoorMH
import Derived.Test.YtiefeajappjnbaaGreatDoorMI
namespace Go.Proofs.YtiefeajappjnbaaGreatDoor
open Go.RowKit
set_option maxRecDepth 100000 in
set_option maxHeartbeats 6400000 in
theorem call_r (f:ExprD→ByteArray) (x:ExprD) (ho:x.op=21) (hz:x.args.length≤8) (hk:∀ i (h:i<x.args.length),KidR f x.args[i])
 (w:World) (B N:Nat) (cs:List Value) (hN:N≤1048576) (hB:B≤w.heap.size) (hE:Env w) (hx:ExprD.At w B N x cs):Calls Tryz.prog 68 #[.agg cs.toArray] w (StrB (stepT f x) w):=by
 have HE:=Hd hE
 have HO:=Hd ho
 obtain ⟨aa,fa,ac,fc,vs,hh⟩:=hx.has
 have hnm:=Hd (show x.name.size≤1048576 from Nat.le_trans hh.own.2.1 hN)
 obtain ⟨nm,hnm2⟩:∃ nm,x.name=nm:=⟨_,rfl⟩
 have znm:nm.size≤1048576:=by rw [← hnm2];exact hnm.out
 have HC1:=Hd (show cs[1]?=some (.string nm) by rw [← hnm2];exact hh.name)
 obtain ⟨l,hl⟩:∃ l,x.args=l:=⟨_,rfl⟩
 have HA:=Hd (show ExprsAt w B N l aa by rw [← hl];exact hh.atArgs)
 have HK:=Hd (show ∀ i (h:i<l.length),KidR f l[i] by subst hl;exact hk)
 have hz:l.length≤8:=by rw [← hl];exact hz
 have HC15:=Hd (show cs[15]?=some (.slice aa l.length ac) by rw [← hl];exact hh.args)
 have HR:=Hd (show stepT f x=if l=[] then nm else nm++⟨#[40]⟩++joinS ⟨#[59,32]⟩ (l.map f)++⟨#[41]⟩ by
  unfold stepT
  rw [HO.out]
  simp only [if_true,if_false,Int.reduceEq]
  rw [hl,hnm2])
 have HSZ:=Hd (show ∀ a∈l,(f a).size≤274877906944 from fun a ha=>by
  obtain ⟨i,hi,rfl⟩:=List.getElem_of_mem ha
  exact (HK.out i hi).size)
 have R0:=Hd (RowT.new w 34 cs)
 have H0:=Hd (belowBox w (.cells cs.toArray 34))
 have e1:=R0.out.cell HC1.out
 have e15:=R0.out.cell HC15.out
 clear hx hE hh ho hk hl hnm hnm2
 go_enter Tryz.func68,Tryz.ntmps68
 go_wp2_with fail
 go_simp
 go_loopw [3,4] (fun v i wr=>∃ (k:Nat) (t:ByteArray),k≤l.length∧i=.int .i64 k∧v=.string t∧Hid (t=accS nm ⟨#[40]⟩ ⟨#[59,32]⟩ ((l.take k).map f))∧Hid (RowT 34 wr w.heap.size cs)∧Hid (Below w.heap.size w wr)) (fun _ i _=>l.length-(intOf i).toNat)
 case atStart=>exact ⟨0,nm,by omega,rfl,rfl,Hd rfl,R0,H0⟩
 case round =>
  clear e1 e15 R0
  obtain ⟨w1,rfl⟩:∃ w1,w1=wr:=⟨wr,rfl⟩
  obtain ⟨k,t,hkl,rfl,rfl,HT,HRr,HBr⟩:=hrel
  have e15:=HRr.out.cell HC15.out
  have zt:t.size≤2199025304000:=by
   rw [HT.out]
   have:=accS_size nm ⟨#[40]⟩ ⟨#[59,32]⟩ 274877906944 8 ((l.take k).map f) (map_take_size f l k _ HSZ.out) (by rw [List.length_map,List.length_take];omega)
   simp only [szl,List.size_toArray,List.length_cons,List.length_nil] at this
   omega
  by_cases hlt:k<l.length
  case neg =>
   obtain rfl:k=l.length:=by omega
   have HTE:=Hd (show t=accS nm ⟨#[40]⟩ ⟨#[59,32]⟩ (l.map f) by have h:=HT.out;rwa [List.take_length] at h)
   by_cases h0:l.length=0
   ·have HL:=Hd (List.length_eq_zero_iff.1 h0)
    have hc0:¬ (0:Int)<(l.length:Int):=by omega
    clear h0
    go_wp2_with fail
    go_ret
    exact ⟨by rw [HR.out,if_pos HL.out,HTE.out,HL.out];rfl,HBr.out⟩
   ·have HL:=Hd (show l≠[] by intro h;rw [h] at h0;exact h0 rfl)
    have hc0:(0:Int)<(l.length:Int):=by omega
    have sc1:t.size+(⟨#[41]⟩:ByteArray).size≤9223372036854775807:=by simp only [szl,List.size_toArray,List.length_cons,List.length_nil];omega
    clear h0
    go_wp2_with fail
    go_ret
    exact ⟨by rw [HR.out,if_neg HL.out,HTE.out,accS,if_neg (by simpa using HL.out)];rfl,HBr.out⟩
  obtain ⟨b,o,rfl,hb,hget⟩:=HA.out.get (by intro h;rw [h] at hlt;simp at hlt)
  obtain ⟨as0,g1,g2⟩:=hget k hlt
  have hle:=Hd (show (Tryz.prog.info? 34).map (·.size)=some as0.length by rw [g2.len];kernel_rfl)
  have HRA:=Hd (g1.below (HBr.out.mono hB) hb)
  have HQA:=Hd (show ∀ u,Below w.heap.size w u→ExprD.At u B N l[k] as0 from fun u hu=>g2.below (hu.mono hB))
  have HKK:=Hd (HK.out k hlt)
  obtain ⟨fk,hfk⟩:∃ fk,f l[k]=fk:=⟨_,rfl⟩
  have HFK:=Hd hfk
  have zfk:fk.size≤274877906944:=by rw [← hfk];exact HKK.out.size
  have HSTP:=Hd (show (l.take (k+1)).map f=(l.take k).map f++[fk] by rw [map_take_step f l hlt,hfk])
  clear g1 g2 hget hfk
  by_cases h0:k=0
  ·subst h0
   have HTN:=Hd (show accS nm ⟨#[40]⟩ ⟨#[59,32]⟩ ((l.take (0+1)).map f)=t++⟨#[40]⟩++fk by rw [HSTP.out,HT.out];rfl)
   have sc1:t.size+(⟨#[40]⟩:ByteArray).size≤9223372036854775807:=by simp only [szl,List.size_toArray,List.length_cons,List.length_nil];omega
   have sc2:(t++⟨#[40]⟩:ByteArray).size+fk.size≤9223372036854775807:=by (repeat rw [ByteArray.size_append]);simp only [szl,List.size_toArray,List.length_cons,List.length_nil];omega
   go_wp2_with ((with_reducible show wpList _ _ _ (⟨some 25,_,_,_,_,_⟩::_) _ _);refine wpList_load_mid rfl 34 _ rfl b (o+0 * 17) rfl as0 _ HRA.out.range Tryz.underlying34 rfl hle.out ?_)
   refine (HKK.out.call _ B N as0 hN (Nat.le_trans hB HBr.out.size) (HE.out.then HBr.out) (HQA.out _ HBr.out)).mono ?_
   rw [HFK.out]
   rintro e w3 ⟨rfl,hb3⟩
   have HB3:=Hd (belowThen HBr.out hb3)
   have HR3:=Hd (HRr.out.then hb3)
   clear hb3
   go_wp2_with fail
   go_roundw
   case rel=>exact ⟨0+1,_,by omega,by go_num,rfl,Hd HTN.out.symm,HR3,HB3⟩
   case measure=>simp [intOf];omega
  ·have HTN:=Hd (show accS nm ⟨#[40]⟩ ⟨#[59,32]⟩ ((l.take (k+1)).map f)=t++⟨#[59,32]⟩++fk by rw [HSTP.out,accS_step _ _ _ _ (map_take_ne f l hlt h0),← HT.out])
   have sc1:t.size+(⟨#[59,32]⟩:ByteArray).size≤9223372036854775807:=by simp only [szl,List.size_toArray,List.length_cons,List.length_nil];omega
   have sc2:(t++⟨#[59,32]⟩:ByteArray).size+fk.size≤9223372036854775807:=by (repeat rw [ByteArray.size_append]);simp only [szl,List.size_toArray,List.length_cons,List.length_nil];omega
   have n1:((k:Int)==0)=false:=by simp;omega
   clear h0
   go_wp2_with ((with_reducible show wpList _ _ _ (⟨some 25,_,_,_,_,_⟩::_) _ _);refine wpList_load_mid rfl 34 _ rfl b (o+k * 17) rfl as0 _ HRA.out.range Tryz.underlying34 rfl hle.out ?_)
   refine (HKK.out.call _ B N as0 hN (Nat.le_trans hB HBr.out.size) (HE.out.then HBr.out) (HQA.out _ HBr.out)).mono ?_
   rw [HFK.out]
   rintro e w3 ⟨rfl,hb3⟩
   have HB3:=Hd (belowThen HBr.out hb3)
   have HR3:=Hd (HRr.out.then hb3)
   clear hb3
   go_wp2_with fail
   go_roundw
   case rel=>exact ⟨k+1,_,by omega,by go_num,rfl,Hd HTN.out.symm,HR3,HB3⟩
   case measure=>simp [intOf];omega
end Go.Proofs.YtiefeajappjnbaaGreatDoor

/- The reference's pairs (printed by genrpr36.py). -/
namespace Go.Proofs.YtiefeajappjnbaaGreatDoor
open Go.RowKit
set_option maxRecDepth 100000 in
set_option maxHeartbeats 12800000 in
theorem pairs_r (f:ExprD→ByteArray) (x:ExprD) (ho:x.op=25) (n:Nat) (hn:x.args.length=2 * n) (hz:x.args.length≤4096) (hk:∀ i (h:i<x.args.length),KidR f x.args[i]) (hy:∀ i (h:i<x.args.length),x.args[i].op=3→x.args[i].val.kind=4→KeyP x.args[i]) (hfit:(joinS ⟨#[44,32]⟩ (pairsS f x.args)).size≤140737488355328)
 (w:World) (B N:Nat) (cs:List Value) (hN:N≤1048576) (hB:B≤w.heap.size) (hE:Env w) (hx:ExprD.At w B N x cs):Calls Tryz.prog 69 #[.agg cs.toArray] w (StrB (stepT f x) w):=by
 have HE:=Hd hE
 have HO:=Hd ho
 obtain ⟨aa,fa,ac,fc,vs,hh⟩:=hx.has
 obtain ⟨l,hl⟩:∃ l,x.args=l:=⟨_,rfl⟩
 have HA:=Hd (show ExprsAt w B N l aa by rw [← hl];exact hh.atArgs)
 have HK:=Hd (show ∀ i (h:i<l.length),KidR f l[i] by subst hl;exact hk)
 have HY:=Hd (show ∀ i (h:i<l.length),l[i].op=3→l[i].val.kind=4→KeyP l[i] by subst hl;exact hy)
 have hz:l.length≤4096:=by rw [← hl];exact hz
 have HLN:=Hd (show l.length=2 * n by rw [← hl];exact hn)
 have HFIT:=Hd (show (joinS ⟨#[44,32]⟩ (pairsS f l)).size≤140737488355328 by rw [← hl];exact hfit)
 have HC15:=Hd (show cs[15]?=some (.slice aa l.length ac) by rw [← hl];exact hh.args)
 have HR:=Hd (show stepT f x=⟨#[123]⟩++joinS ⟨#[44,32]⟩ (pairsS f l)++⟨#[125]⟩ by
  unfold stepT
  rw [HO.out]
  simp only [if_true,if_false,Int.reduceEq]
  rw [hl])
 have R0:=Hd (RowT.new w 34 cs)
 have H0:=Hd (belowBox w (.cells cs.toArray 34))
 have e15:=R0.out.cell HC15.out
 clear hx hE hh ho hk hy hl hn hfit
 go_enter Tryz.func69,Tryz.ntmps69
 go_wp2_with fail
 go_simp
 go_loopw [3,4] (fun v i wr=>∃ (k:Nat) (t:ByteArray),2 * k≤l.length∧i=.int .i64 (2 * k:Nat)∧v=.string t∧Hid (t=braS (pairsS f (l.take (2 * k))))∧Hid (RowT 34 wr w.heap.size cs)∧Hid (Below w.heap.size w wr)) (fun _ i _=>l.length-(intOf i).toNat)
 case atStart=>exact ⟨0,⟨#[123]⟩,by omega,rfl,rfl,Hd rfl,R0,H0⟩
 case round =>
  clear e15 R0
  obtain ⟨w1,rfl⟩:∃ w1,w1=wr:=⟨wr,rfl⟩
  obtain ⟨k,t,hkl,rfl,rfl,HT,HRr,HBr⟩:=hrel
  have e15:=HRr.out.cell HC15.out
  have zt:t.size≤140737488355329:=by
   rw [HT.out,braS,ByteArray.size_append]
   have h1:=pairsS_take f l k hkl
   have h2:=HFIT.out
   simp only [szl,List.size_toArray,List.length_cons,List.length_nil]
   omega
  by_cases hlt:2 * k<l.length
  case neg =>
   obtain hkk:2 * k=l.length:=by have:=HLN.out;omega
   have HTE:=Hd (show t=⟨#[123]⟩++joinS ⟨#[44,32]⟩ (pairsS f l) by rw [HT.out,hkk,List.take_length];rfl)
   have sc1:t.size+(⟨#[125]⟩:ByteArray).size≤9223372036854775807:=by simp only [szl,List.size_toArray,List.length_cons,List.length_nil];omega
   rw [hkk]
   clear hkk hlt hkl
   go_wp2_with fail
   go_ret
   exact ⟨by rw [HR.out,HTE.out];rfl,HBr.out⟩
  have hlt2:2 * k+1<l.length:=by have:=HLN.out;omega
  obtain ⟨j,hj⟩:∃ j,2 * k=j:=⟨_,rfl⟩
  have HJ:=Hd hj
  have HTP:=Hd (show k≠0→pairsS f (l.take j)≠[] by intro h;rw [← hj];exact pairsS_ne f l hkl h)
  rw [hj] at hlt hlt2 HT
  have HSTEP:=Hd (show pairsS f (l.take (j+2))=pairsS f (l.take j)++[pairT f l[j] l[j+1]] by subst hj;exact pairsS_step f l hlt2)
  simp only [hj]
  obtain ⟨b,o,rfl,hb,hget⟩:=HA.out.get (by intro h;rw [h] at hlt;simp at hlt)
  obtain ⟨as0,g1,g2⟩:=hget j hlt
  obtain ⟨as1,g3,g4⟩:=hget (j+1) hlt2
  obtain ⟨_,_,_,_,vs,gh⟩:=g2.has
  obtain ⟨_,_,_,_,_,_,gv⟩:=gh.atVal.has
  have hl1:=Hd (show (Tryz.prog.info? 34).map (·.size)=some as0.length by rw [g2.len];kernel_rfl)
  have hl2:=Hd (show (Tryz.prog.info? 34).map (·.size)=some as1.length by rw [g4.len];kernel_rfl)
  have hlf2:=Hd (show (Tryz.prog.info? 34).map (·.size)=some as0.toArray.size by rw [List.size_toArray,g2.len];kernel_rfl)
  have h17:=Hd (show 17=as0.toArray.size by rw [List.size_toArray,g2.len])
  have hone:=Hd (show as0.toArray.all (·.oneCell')=true from Go.all_oneCell_toArray g2.one)
  have HRA:=Hd (g1.below (HBr.out.mono hB) hb)
  have HB1:=Hd (show Below w.heap.size w (w1.alloc (.cells as0.toArray 34)) from belowThen HBr.out (belowBox w1 _))
  have HBX:=Hd (RowT.new w1 34 as0)
  have HR1:=Hd (HRr.out.alloc (.cells as0.toArray 34))
  have HR2:=Hd (show ∀ u,Below w.heap.size w u→CellsAt u b (o+(j+1) * 17) as1 from fun u hu=>g3.below (hu.mono hB) hb)
  have HQ1:=Hd (show ∀ u,Below w.heap.size w u→ExprD.At u B N l[j] as0 from fun u hu=>g2.below (hu.mono hB))
  have HQ2:=Hd (show ∀ u,Below w.heap.size w u→ExprD.At u B N l[j+1] as1 from fun u hu=>g4.below (hu.mono hB))
  obtain ⟨p,hp⟩:∃ p,l[j].op=p:=⟨_,rfl⟩
  have HP:=Hd hp
  obtain ⟨q,hq⟩:∃ q,l[j].val.kind=q:=⟨_,rfl⟩
  have HQ:=Hd hq
  obtain ⟨tx,htx⟩:∃ tx,l[j].val.text=tx:=⟨_,rfl⟩
  have HTX:=Hd htx
  have HC0:=Hd (show as0[0]?=some (.int .i64 p) by rw [← hp];exact gh.op)
  have HC2:=Hd (show as0[2]?=some (.int .i64 q) by rw [← hq];exact cell_val gh.val (j:=0) (by omega) gv.kind)
  have HC11:=Hd (show as0[11]?=some (.string tx) by rw [← htx];exact cell_val gh.val (j:=9) (by omega) gv.text)
  have HK0:=Hd (HK.out j hlt)
  have HK1:=Hd (HK.out (j+1) hlt2)
  have HY0:=Hd (HY.out j hlt)
  obtain ⟨fk,hfk⟩:∃ fk,f l[j]=fk:=⟨_,rfl⟩
  have HFK:=Hd hfk
  have zk:fk.size≤274877906944:=by rw [← hfk];exact HK0.out.size
  obtain ⟨va,hva⟩:∃ va,atS f 2 l[j+1]=va:=⟨_,rfl⟩
  have HVA:=Hd hva
  have zv:va.size≤274877906946:=by rw [← hva];exact Nat.le_trans (atS_le f 2 _) (Nat.add_le_add_right HK1.out.size 2)
  have c0:=HBX.out.cell HC0.out
  have c2:=HBX.out.cell HC2.out
  have c11:=HBX.out.cell HC11.out
  clear g1 g2 g3 g4 gh gv hget hp hq htx hfk hva hj hkl
  by_cases h0:k=0
  ·have n0:¬ (0:Int)<(j:Int):=by have:=HJ.out;omega
   have HTB:=Hd (show ∀ a,braS (pairsS f (l.take j)++[a])=t++a by intro a;have hj0:j=0:=by { have:=HJ.out;omega };rw [HT.out,hj0];rfl)
   clear h0
   by_cases h3:p=3
   ·subst h3
    by_cases h4:q=4
    ·subst h4
     have HTN:=Hd (show braS (pairsS f (l.take (j+2)))=t++quoteS tx++⟨#[58,32]⟩++va by
      rw [HSTEP.out,HTB.out,pairT,HVA.out,keyS,if_pos ⟨HP.out,HQ.out⟩,HTX.out]
      simp only [ByteArray.append_assoc])
     have zq:(quoteS tx).size≤274877906946:=Nat.le_trans (quoteS_size tx) (by have:=(HY0.out HP.out HQ.out).text;rw [HTX.out] at this;omega)
     have sb:(t:ByteArray).size+(quoteS tx:ByteArray).size≤9223372036854775807:=by (repeat rw [ByteArray.size_append]);(try simp only [szl,List.size_toArray,List.length_cons,List.length_nil] at zq ⊢);omega
     have sc:(t++quoteS tx:ByteArray).size+(⟨#[58,32]⟩:ByteArray).size≤9223372036854775807:=by (repeat rw [ByteArray.size_append]);(try simp only [szl,List.size_toArray,List.length_cons,List.length_nil] at zq ⊢);omega
     have sd:(t++quoteS tx++⟨#[58,32]⟩:ByteArray).size+(va:ByteArray).size≤9223372036854775807:=by (repeat rw [ByteArray.size_append]);(try simp only [szl,List.size_toArray,List.length_cons,List.length_nil] at zq ⊢);omega
     clear zq
     go_wp2_with (first
      | ((with_reducible show wpList _ _ _ (⟨some 22,_,_,_,_,_⟩::_) _ _);refine wpList_load_mid rfl 34 _ rfl b (o+j * 17) rfl as0 _ HRA.out.range Tryz.underlying34 rfl hl1.out ?_)
      | ((with_reducible show wpList _ _ _ (⟨none,.store 34 (.tmp 5) (.tmp 22),_,_,_,_⟩::_) _ _);refine wpList_store_new rfl 34 _ _ rfl _ as0.toArray rfl rfl hlf2.out h17.out hone.out ?_))
     refine (quote_r tx _ (by have:=(HY0.out HP.out HQ.out).text;rw [HTX.out] at this;exact this) (HE.out.then HB1.out) (by have:=(HY0.out HP.out HQ.out).valid;rw [HTX.out] at this;exact this)).mono ?_
     rintro e w3 ⟨rfl,hb3⟩
     have HB3:=Hd (belowThen HB1.out hb3)
     have HR3:=Hd (HR1.out.then hb3)
     clear hb3 c0 c2 c11 e15
     have e15:=HR3.out.cell HC15.out
     go_wp2_with ((with_reducible show wpList _ _ _ (⟨some 51,_,_,_,_,_⟩::_) _ _);refine wpList_load_mid rfl 34 _ rfl b (o+(j+1) * 17) rfl as1 _ (HR2.out _ HB3.out).range Tryz.underlying34 rfl hl2.out ?_)
     refine (at_r f _ HK1.out 2 _ B N as1 hN (Nat.le_trans hB HB3.out.size) (HE.out.then HB3.out) (HQ2.out _ HB3.out)).mono ?_
     rw [HVA.out]
     rintro e w4 ⟨rfl,hb4⟩
     have HB4:=Hd (belowThen HB3.out hb4)
     have HR4:=Hd (HR3.out.then hb4)
     clear hb4
     go_wp2_with fail
     go_roundw
     case rel=>exact ⟨k+1,_,by have:=HJ.out;omega,by have:=HJ.out;go_num,rfl,Hd (by rw [show 2 * (k+1)=j+2 by have:=HJ.out;omega];exact HTN.out.symm),HR4,HB4⟩
     case measure=>simp [intOf];omega
    ·have n1:(q==4)=false:=by simpa using h4
     have HTN:=Hd (show braS (pairsS f (l.take (j+2)))=t++⟨#[40]⟩++fk++⟨#[41]⟩++⟨#[58,32]⟩++va by
      rw [HSTEP.out,HTB.out,pairT,HVA.out,keyS,if_neg (fun h=>h4 (HQ.out ▸ h.2)),HFK.out,inP]
      simp only [ByteArray.append_assoc])
     have zq:True:=trivial
     have sb:(t:ByteArray).size+(⟨#[40]⟩:ByteArray).size≤9223372036854775807:=by (repeat rw [ByteArray.size_append]);(try simp only [szl,List.size_toArray,List.length_cons,List.length_nil] at zq ⊢);omega
     have sb1:(t++⟨#[40]⟩:ByteArray).size+(fk:ByteArray).size≤9223372036854775807:=by (repeat rw [ByteArray.size_append]);(try simp only [szl,List.size_toArray,List.length_cons,List.length_nil] at zq ⊢);omega
     have sb2:(t++⟨#[40]⟩++fk:ByteArray).size+(⟨#[41]⟩:ByteArray).size≤9223372036854775807:=by (repeat rw [ByteArray.size_append]);(try simp only [szl,List.size_toArray,List.length_cons,List.length_nil] at zq ⊢);omega
     have sc:(t++⟨#[40]⟩++fk++⟨#[41]⟩:ByteArray).size+(⟨#[58,32]⟩:ByteArray).size≤9223372036854775807:=by (repeat rw [ByteArray.size_append]);(try simp only [szl,List.size_toArray,List.length_cons,List.length_nil] at zq ⊢);omega
     have sd:(t++⟨#[40]⟩++fk++⟨#[41]⟩++⟨#[58,32]⟩:ByteArray).size+(va:ByteArray).size≤9223372036854775807:=by (repeat rw [ByteArray.size_append]);(try simp only [szl,List.size_toArray,List.length_cons,List.length_nil] at zq ⊢);omega
     clear zq
     go_wp2_with (first
      | ((with_reducible show wpList _ _ _ (⟨some 22,_,_,_,_,_⟩::_) _ _);refine wpList_load_mid rfl 34 _ rfl b (o+j * 17) rfl as0 _ HRA.out.range Tryz.underlying34 rfl hl1.out ?_)
      | ((with_reducible show wpList _ _ _ (⟨none,.store 34 (.tmp 5) (.tmp 22),_,_,_,_⟩::_) _ _);refine wpList_store_new rfl 34 _ _ rfl _ as0.toArray rfl rfl hlf2.out h17.out hone.out ?_)
      | ((with_reducible show wpList _ _ _ (⟨some 40,_,_,_,_,_⟩::_) _ _);refine wpList_load_mid rfl 34 _ rfl w1.heap.size 0 rfl as0 _ HBX.out.range Tryz.underlying34 rfl hl1.out ?_))
     refine (HK0.out.call _ B N as0 hN (Nat.le_trans hB HB1.out.size) (HE.out.then HB1.out) (HQ1.out _ HB1.out)).mono ?_
     rw [HFK.out]
     rintro e w3 ⟨rfl,hb3⟩
     have HB3:=Hd (belowThen HB1.out hb3)
     have HR3:=Hd (HR1.out.then hb3)
     clear hb3 c0 c2 c11 e15
     have e15:=HR3.out.cell HC15.out
     go_wp2_with ((with_reducible show wpList _ _ _ (⟨some 51,_,_,_,_,_⟩::_) _ _);refine wpList_load_mid rfl 34 _ rfl b (o+(j+1) * 17) rfl as1 _ (HR2.out _ HB3.out).range Tryz.underlying34 rfl hl2.out ?_)
     refine (at_r f _ HK1.out 2 _ B N as1 hN (Nat.le_trans hB HB3.out.size) (HE.out.then HB3.out) (HQ2.out _ HB3.out)).mono ?_
     rw [HVA.out]
     rintro e w4 ⟨rfl,hb4⟩
     have HB4:=Hd (belowThen HB3.out hb4)
     have HR4:=Hd (HR3.out.then hb4)
     clear hb4
     go_wp2_with fail
     go_roundw
     case rel=>exact ⟨k+1,_,by have:=HJ.out;omega,by have:=HJ.out;go_num,rfl,Hd (by rw [show 2 * (k+1)=j+2 by have:=HJ.out;omega];exact HTN.out.symm),HR4,HB4⟩
     case measure=>simp [intOf];omega
   ·have n1:(p==3)=false:=by simpa using h3
    have HTN:=Hd (show braS (pairsS f (l.take (j+2)))=t++⟨#[40]⟩++fk++⟨#[41]⟩++⟨#[58,32]⟩++va by
     rw [HSTEP.out,HTB.out,pairT,HVA.out,keyS,if_neg (fun h=>h3 (HP.out ▸ h.1)),HFK.out,inP]
     simp only [ByteArray.append_assoc])
    have zq:True:=trivial
    have sb:(t:ByteArray).size+(⟨#[40]⟩:ByteArray).size≤9223372036854775807:=by (repeat rw [ByteArray.size_append]);(try simp only [szl,List.size_toArray,List.length_cons,List.length_nil] at zq ⊢);omega
    have sb1:(t++⟨#[40]⟩:ByteArray).size+(fk:ByteArray).size≤9223372036854775807:=by (repeat rw [ByteArray.size_append]);(try simp only [szl,List.size_toArray,List.length_cons,List.length_nil] at zq ⊢);omega
    have sb2:(t++⟨#[40]⟩++fk:ByteArray).size+(⟨#[41]⟩:ByteArray).size≤9223372036854775807:=by (repeat rw [ByteArray.size_append]);(try simp only [szl,List.size_toArray,List.length_cons,List.length_nil] at zq ⊢);omega
    have sc:(t++⟨#[40]⟩++fk++⟨#[41]⟩:ByteArray).size+(⟨#[58,32]⟩:ByteArray).size≤9223372036854775807:=by (repeat rw [ByteArray.size_append]);(try simp only [szl,List.size_toArray,List.length_cons,List.length_nil] at zq ⊢);omega
    have sd:(t++⟨#[40]⟩++fk++⟨#[41]⟩++⟨#[58,32]⟩:ByteArray).size+(va:ByteArray).size≤9223372036854775807:=by (repeat rw [ByteArray.size_append]);(try simp only [szl,List.size_toArray,List.length_cons,List.length_nil] at zq ⊢);omega
    clear zq
    go_wp2_with (first
     | ((with_reducible show wpList _ _ _ (⟨some 22,_,_,_,_,_⟩::_) _ _);refine wpList_load_mid rfl 34 _ rfl b (o+j * 17) rfl as0 _ HRA.out.range Tryz.underlying34 rfl hl1.out ?_)
     | ((with_reducible show wpList _ _ _ (⟨none,.store 34 (.tmp 5) (.tmp 22),_,_,_,_⟩::_) _ _);refine wpList_store_new rfl 34 _ _ rfl _ as0.toArray rfl rfl hlf2.out h17.out hone.out ?_)
     | ((with_reducible show wpList _ _ _ (⟨some 40,_,_,_,_,_⟩::_) _ _);refine wpList_load_mid rfl 34 _ rfl w1.heap.size 0 rfl as0 _ HBX.out.range Tryz.underlying34 rfl hl1.out ?_))
    refine (HK0.out.call _ B N as0 hN (Nat.le_trans hB HB1.out.size) (HE.out.then HB1.out) (HQ1.out _ HB1.out)).mono ?_
    rw [HFK.out]
    rintro e w3 ⟨rfl,hb3⟩
    have HB3:=Hd (belowThen HB1.out hb3)
    have HR3:=Hd (HR1.out.then hb3)
    clear hb3 c0 c2 c11 e15
    have e15:=HR3.out.cell HC15.out
    go_wp2_with ((with_reducible show wpList _ _ _ (⟨some 51,_,_,_,_,_⟩::_) _ _);refine wpList_load_mid rfl 34 _ rfl b (o+(j+1) * 17) rfl as1 _ (HR2.out _ HB3.out).range Tryz.underlying34 rfl hl2.out ?_)
    refine (at_r f _ HK1.out 2 _ B N as1 hN (Nat.le_trans hB HB3.out.size) (HE.out.then HB3.out) (HQ2.out _ HB3.out)).mono ?_
    rw [HVA.out]
    rintro e w4 ⟨rfl,hb4⟩
    have HB4:=Hd (belowThen HB3.out hb4)
    have HR4:=Hd (HR3.out.then hb4)
    clear hb4
    go_wp2_with fail
    go_roundw
    case rel=>exact ⟨k+1,_,by have:=HJ.out;omega,by have:=HJ.out;go_num,rfl,Hd (by rw [show 2 * (k+1)=j+2 by have:=HJ.out;omega];exact HTN.out.symm),HR4,HB4⟩
    case measure=>simp [intOf];omega
  ·have n0:(0:Int)<(j:Int):=by have:=HJ.out;omega
   have HTB:=Hd (show ∀ a,braS (pairsS f (l.take j)++[a])=t++⟨#[44,32]⟩++a by intro a;rw [braS_step a (HTP.out h0),← HT.out])
   clear h0
   by_cases h3:p=3
   ·subst h3
    by_cases h4:q=4
    ·subst h4
     have HTN:=Hd (show braS (pairsS f (l.take (j+2)))=t++⟨#[44,32]⟩++quoteS tx++⟨#[58,32]⟩++va by
      rw [HSTEP.out,HTB.out,pairT,HVA.out,keyS,if_pos ⟨HP.out,HQ.out⟩,HTX.out]
      simp only [ByteArray.append_assoc])
     have zq:(quoteS tx).size≤274877906946:=Nat.le_trans (quoteS_size tx) (by have:=(HY0.out HP.out HQ.out).text;rw [HTX.out] at this;omega)
     have sa:(t:ByteArray).size+(⟨#[44,32]⟩:ByteArray).size≤9223372036854775807:=by (repeat rw [ByteArray.size_append]);(try simp only [szl,List.size_toArray,List.length_cons,List.length_nil] at zq ⊢);omega
     have sb:(t++⟨#[44,32]⟩:ByteArray).size+(quoteS tx:ByteArray).size≤9223372036854775807:=by (repeat rw [ByteArray.size_append]);(try simp only [szl,List.size_toArray,List.length_cons,List.length_nil] at zq ⊢);omega
     have sc:(t++⟨#[44,32]⟩++quoteS tx:ByteArray).size+(⟨#[58,32]⟩:ByteArray).size≤9223372036854775807:=by (repeat rw [ByteArray.size_append]);(try simp only [szl,List.size_toArray,List.length_cons,List.length_nil] at zq ⊢);omega
     have sd:(t++⟨#[44,32]⟩++quoteS tx++⟨#[58,32]⟩:ByteArray).size+(va:ByteArray).size≤9223372036854775807:=by (repeat rw [ByteArray.size_append]);(try simp only [szl,List.size_toArray,List.length_cons,List.length_nil] at zq ⊢);omega
     clear zq
     go_wp2_with (first
      | ((with_reducible show wpList _ _ _ (⟨some 22,_,_,_,_,_⟩::_) _ _);refine wpList_load_mid rfl 34 _ rfl b (o+j * 17) rfl as0 _ HRA.out.range Tryz.underlying34 rfl hl1.out ?_)
      | ((with_reducible show wpList _ _ _ (⟨none,.store 34 (.tmp 5) (.tmp 22),_,_,_,_⟩::_) _ _);refine wpList_store_new rfl 34 _ _ rfl _ as0.toArray rfl rfl hlf2.out h17.out hone.out ?_))
     refine (quote_r tx _ (by have:=(HY0.out HP.out HQ.out).text;rw [HTX.out] at this;exact this) (HE.out.then HB1.out) (by have:=(HY0.out HP.out HQ.out).valid;rw [HTX.out] at this;exact this)).mono ?_
     rintro e w3 ⟨rfl,hb3⟩
     have HB3:=Hd (belowThen HB1.out hb3)
     have HR3:=Hd (HR1.out.then hb3)
     clear hb3 c0 c2 c11 e15
     have e15:=HR3.out.cell HC15.out
     go_wp2_with ((with_reducible show wpList _ _ _ (⟨some 51,_,_,_,_,_⟩::_) _ _);refine wpList_load_mid rfl 34 _ rfl b (o+(j+1) * 17) rfl as1 _ (HR2.out _ HB3.out).range Tryz.underlying34 rfl hl2.out ?_)
     refine (at_r f _ HK1.out 2 _ B N as1 hN (Nat.le_trans hB HB3.out.size) (HE.out.then HB3.out) (HQ2.out _ HB3.out)).mono ?_
     rw [HVA.out]
     rintro e w4 ⟨rfl,hb4⟩
     have HB4:=Hd (belowThen HB3.out hb4)
     have HR4:=Hd (HR3.out.then hb4)
     clear hb4
     go_wp2_with fail
     go_roundw
     case rel=>exact ⟨k+1,_,by have:=HJ.out;omega,by have:=HJ.out;go_num,rfl,Hd (by rw [show 2 * (k+1)=j+2 by have:=HJ.out;omega];exact HTN.out.symm),HR4,HB4⟩
     case measure=>simp [intOf];omega
    ·have n1:(q==4)=false:=by simpa using h4
     have HTN:=Hd (show braS (pairsS f (l.take (j+2)))=t++⟨#[44,32]⟩++⟨#[40]⟩++fk++⟨#[41]⟩++⟨#[58,32]⟩++va by
      rw [HSTEP.out,HTB.out,pairT,HVA.out,keyS,if_neg (fun h=>h4 (HQ.out ▸ h.2)),HFK.out,inP]
      simp only [ByteArray.append_assoc])
     have zq:True:=trivial
     have sa:(t:ByteArray).size+(⟨#[44,32]⟩:ByteArray).size≤9223372036854775807:=by (repeat rw [ByteArray.size_append]);(try simp only [szl,List.size_toArray,List.length_cons,List.length_nil] at zq ⊢);omega
     have sb:(t++⟨#[44,32]⟩:ByteArray).size+(⟨#[40]⟩:ByteArray).size≤9223372036854775807:=by (repeat rw [ByteArray.size_append]);(try simp only [szl,List.size_toArray,List.length_cons,List.length_nil] at zq ⊢);omega
     have sb1:(t++⟨#[44,32]⟩++⟨#[40]⟩:ByteArray).size+(fk:ByteArray).size≤9223372036854775807:=by (repeat rw [ByteArray.size_append]);(try simp only [szl,List.size_toArray,List.length_cons,List.length_nil] at zq ⊢);omega
     have sb2:(t++⟨#[44,32]⟩++⟨#[40]⟩++fk:ByteArray).size+(⟨#[41]⟩:ByteArray).size≤9223372036854775807:=by (repeat rw [ByteArray.size_append]);(try simp only [szl,List.size_toArray,List.length_cons,List.length_nil] at zq ⊢);omega
     have sc:(t++⟨#[44,32]⟩++⟨#[40]⟩++fk++⟨#[41]⟩:ByteArray).size+(⟨#[58,32]⟩:ByteArray).size≤9223372036854775807:=by (repeat rw [ByteArray.size_append]);(try simp only [szl,List.size_toArray,List.length_cons,List.length_nil] at zq ⊢);omega
     have sd:(t++⟨#[44,32]⟩++⟨#[40]⟩++fk++⟨#[41]⟩++⟨#[58,32]⟩:ByteArray).size+(va:ByteArray).size≤9223372036854775807:=by (repeat rw [ByteArray.size_append]);(try simp only [szl,List.size_toArray,List.length_cons,List.length_nil] at zq ⊢);omega
     clear zq
     go_wp2_with (first
      | ((with_reducible show wpList _ _ _ (⟨some 22,_,_,_,_,_⟩::_) _ _);refine wpList_load_mid rfl 34 _ rfl b (o+j * 17) rfl as0 _ HRA.out.range Tryz.underlying34 rfl hl1.out ?_)
      | ((with_reducible show wpList _ _ _ (⟨none,.store 34 (.tmp 5) (.tmp 22),_,_,_,_⟩::_) _ _);refine wpList_store_new rfl 34 _ _ rfl _ as0.toArray rfl rfl hlf2.out h17.out hone.out ?_)
      | ((with_reducible show wpList _ _ _ (⟨some 40,_,_,_,_,_⟩::_) _ _);refine wpList_load_mid rfl 34 _ rfl w1.heap.size 0 rfl as0 _ HBX.out.range Tryz.underlying34 rfl hl1.out ?_))
     refine (HK0.out.call _ B N as0 hN (Nat.le_trans hB HB1.out.size) (HE.out.then HB1.out) (HQ1.out _ HB1.out)).mono ?_
     rw [HFK.out]
     rintro e w3 ⟨rfl,hb3⟩
     have HB3:=Hd (belowThen HB1.out hb3)
     have HR3:=Hd (HR1.out.then hb3)
     clear hb3 c0 c2 c11 e15
     have e15:=HR3.out.cell HC15.out
     go_wp2_with ((with_reducible show wpList _ _ _ (⟨some 51,_,_,_,_,_⟩::_) _ _);refine wpList_load_mid rfl 34 _ rfl b (o+(j+1) * 17) rfl as1 _ (HR2.out _ HB3.out).range Tryz.underlying34 rfl hl2.out ?_)
     refine (at_r f _ HK1.out 2 _ B N as1 hN (Nat.le_trans hB HB3.out.size) (HE.out.then HB3.out) (HQ2.out _ HB3.out)).mono ?_
     rw [HVA.out]
     rintro e w4 ⟨rfl,hb4⟩
     have HB4:=Hd (belowThen HB3.out hb4)
     have HR4:=Hd (HR3.out.then hb4)
     clear hb4
     go_wp2_with fail
     go_roundw
     case rel=>exact ⟨k+1,_,by have:=HJ.out;omega,by have:=HJ.out;go_num,rfl,Hd (by rw [show 2 * (k+1)=j+2 by have:=HJ.out;omega];exact HTN.out.symm),HR4,HB4⟩
     case measure=>simp [intOf];omega
   ·have n1:(p==3)=false:=by simpa using h3
    have HTN:=Hd (show braS (pairsS f (l.take (j+2)))=t++⟨#[44,32]⟩++⟨#[40]⟩++fk++⟨#[41]⟩++⟨#[58,32]⟩++va by
     rw [HSTEP.out,HTB.out,pairT,HVA.out,keyS,if_neg (fun h=>h3 (HP.out ▸ h.1)),HFK.out,inP]
     simp only [ByteArray.append_assoc])
    have zq:True:=trivial
    have sa:(t:ByteArray).size+(⟨#[44,32]⟩:ByteArray).size≤9223372036854775807:=by (repeat rw [ByteArray.size_append]);(try simp only [szl,List.size_toArray,List.length_cons,List.length_nil] at zq ⊢);omega
    have sb:(t++⟨#[44,32]⟩:ByteArray).size+(⟨#[40]⟩:ByteArray).size≤9223372036854775807:=by (repeat rw [ByteArray.size_append]);(try simp only [szl,List.size_toArray,List.length_cons,List.length_nil] at zq ⊢);omega
    have sb1:(t++⟨#[44,32]⟩++⟨#[40]⟩:ByteArray).size+(fk:ByteArray).size≤9223372036854775807:=by (repeat rw [ByteArray.size_append]);(try simp only [szl,List.size_toArray,List.length_cons,List.length_nil] at zq ⊢);omega
    have sb2:(t++⟨#[44,32]⟩++⟨#[40]⟩++fk:ByteArray).size+(⟨#[41]⟩:ByteArray).size≤9223372036854775807:=by (repeat rw [ByteArray.size_append]);(try simp only [szl,List.size_toArray,List.length_cons,List.length_nil] at zq ⊢);omega
    have sc:(t++⟨#[44,32]⟩++⟨#[40]⟩++fk++⟨#[41]⟩:ByteArray).size+(⟨#[58,32]⟩:ByteArray).size≤9223372036854775807:=by (repeat rw [ByteArray.size_append]);(try simp only [szl,List.size_toArray,List.length_cons,List.length_nil] at zq ⊢);omega
    have sd:(t++⟨#[44,32]⟩++⟨#[40]⟩++fk++⟨#[41]⟩++⟨#[58,32]⟩:ByteArray).size+(va:ByteArray).size≤9223372036854775807:=by (repeat rw [ByteArray.size_append]);(try simp only [szl,List.size_toArray,List.length_cons,List.length_nil] at zq ⊢);omega
    clear zq
    go_wp2_with (first
     | ((with_reducible show wpList _ _ _ (⟨some 22,_,_,_,_,_⟩::_) _ _);refine wpList_load_mid rfl 34 _ rfl b (o+j * 17) rfl as0 _ HRA.out.range Tryz.underlying34 rfl hl1.out ?_)
     | ((with_reducible show wpList _ _ _ (⟨none,.store 34 (.tmp 5) (.tmp 22),_,_,_,_⟩::_) _ _);refine wpList_store_new rfl 34 _ _ rfl _ as0.toArray rfl rfl hlf2.out h17.out hone.out ?_)
     | ((with_reducible show wpList _ _ _ (⟨some 40,_,_,_,_,_⟩::_) _ _);refine wpList_load_mid rfl 34 _ rfl w1.heap.size 0 rfl as0 _ HBX.out.range Tryz.underlying34 rfl hl1.out ?_))
    refine (HK0.out.call _ B N as0 hN (Nat.le_trans hB HB1.out.size) (HE.out.then HB1.out) (HQ1.out _ HB1.out)).mono ?_
    rw [HFK.out]
    rintro e w3 ⟨rfl,hb3⟩
    have HB3:=Hd (belowThen HB1.out hb3)
    have HR3:=Hd (HR1.out.then hb3)
    clear hb3 c0 c2 c11 e15
    have e15:=HR3.out.cell HC15.out
    go_wp2_with ((with_reducible show wpList _ _ _ (⟨some 51,_,_,_,_,_⟩::_) _ _);refine wpList_load_mid rfl 34 _ rfl b (o+(j+1) * 17) rfl as1 _ (HR2.out _ HB3.out).range Tryz.underlying34 rfl hl2.out ?_)
    refine (at_r f _ HK1.out 2 _ B N as1 hN (Nat.le_trans hB HB3.out.size) (HE.out.then HB3.out) (HQ2.out _ HB3.out)).mono ?_
    rw [HVA.out]
    rintro e w4 ⟨rfl,hb4⟩
    have HB4:=Hd (belowThen HB3.out hb4)
    have HR4:=Hd (HR3.out.then hb4)
    clear hb4
    go_wp2_with fail
    go_roundw
    case rel=>exact ⟨k+1,_,by have:=HJ.out;omega,by have:=HJ.out;go_num,rfl,Hd (by rw [show 2 * (k+1)=j+2 by have:=HJ.out;omega];exact HTN.out.symm),HR4,HB4⟩
    case measure=>simp [intOf];omega
end Go.Proofs.YtiefeajappjnbaaGreatDoor

/- The reference's Def, and the definitions in word (printed by genrdf36.py). -/
namespace Go.Proofs.YtiefeajappjnbaaGreatDoor
open Go.RowKit
theorem headS_acc (y:FuncD) (nm:ByteArray) (h:y.name=nm):headS y=if y.params=[] then ⟨#[100,101,102,32]⟩++nm else accS (⟨#[100,101,102,32]⟩++nm) ⟨#[40]⟩ ⟨#[59,32]⟩ (y.params.map parS)++⟨#[41]⟩:=by
 unfold headS
 rw [h]
 by_cases h0:y.params=[]
 ·rw [if_pos h0,if_pos h0]
 ·rw [if_neg h0,if_neg h0]
  unfold accS
  rw [if_neg (by simpa using h0)]
  simp only [ByteArray.append_assoc]
set_option maxRecDepth 100000 in
set_option maxHeartbeats 12800000 in
theorem def_r (f:ExprD→ByteArray) (y:FuncD) (hk:SrcR f y.body) (hkz:(f y.body).size≤274877906944) (hz:y.params.length≤8) (w:World) (B N:Nat) (cs:List Value) (hN:N≤1048576) (hB:B≤w.heap.size) (hE:Env w) (hy:FuncD.At w B N y cs) :
 Calls Tryz.prog 30 #[.agg cs.toArray] w (StrB (defS f y) w):=by
 have HK:=Hd hk
 have HE:=Hd hE
 obtain ⟨pa,pc,es,hh⟩:=hy.has
 have HPA:=Hd hh.atPar
 have HBD:=Hd hh.atBody
 have hes:(cs.drop 2).take 17=es:=by rw [hh.body];exact List.take_of_length_le (by rw [hh.atBody.len];exact Nat.le_refl _)
 have HES:=Hd hes
 have hle:=Hd (show (Tryz.prog.info? 34).map (·.size)=some es.length by rw [hh.atBody.len];kernel_rfl)
 obtain ⟨nm,hnm⟩:∃ nm,y.name=nm:=⟨_,rfl⟩
 have HHD:=Hd (headS_acc y nm hnm)
 have HC0:=Hd (show cs[0]?=some (.string nm) by rw [← hnm];exact hh.name)
 have znm:nm.size≤1048576:=by rw [← hnm];exact Nat.le_trans hh.hn hN
 obtain ⟨l,hl⟩:∃ l,y.params=l:=⟨_,rfl⟩
 have HC1:=Hd (show cs[1]?=some (.slice pa l.length pc) by rw [← hl];exact hh.params)
 rw [hl] at HHD HPA hz
 have HPS:=Hd (show ∀ p∈l,(parS p).size≤1048577 from fun p hp=>by
  obtain ⟨j,hj,rfl⟩:=List.getElem_of_mem hp
  obtain ⟨_,_,_,_,hg⟩:=HPA.out.get (by intro h;simp [h] at hj)
  exact Nat.le_trans (parS_size _) (Nat.add_le_add_right (Nat.le_trans (hg j hj).1 hN) 1))
 obtain ⟨sb,hsb⟩:∃ sb,f y.body=sb:=⟨_,rfl⟩
 have HSB:=Hd hsb
 rw [hsb] at hkz
 have HR:=Hd (show defS f y=headS y++⟨#[58,32]⟩++sb++⟨#[59]⟩ by rw [← hsb];rfl)
 have R0:=Hd (RowT.new w 72 cs)
 have H0:=Hd (belowBox w (.cells cs.toArray 72))
 have e0:=R0.out.cell HC0.out
 have e1:=R0.out.cell HC1.out
 have sc1:(⟨#[100,101,102,32]⟩:ByteArray).size+nm.size≤9223372036854775807:=by simp only [szl,List.size_toArray,List.length_cons,List.length_nil];omega
 clear hk hE hy hh hes hnm hsb hl
 go_enter Tryz.func30,Tryz.ntmps30
 go_wp2_with fail
 go_simp
 go_loopw [3,4] (fun v i wr=>∃ (k:Nat) (t:ByteArray),k≤l.length∧i=.int .i64 k∧v=.string t∧Hid (t=accS (⟨#[100,101,102,32]⟩++nm) ⟨#[40]⟩ ⟨#[59,32]⟩ ((l.take k).map parS))∧Hid (RowT 72 wr w.heap.size cs)∧Hid (Below w.heap.size w wr)) (fun _ i _=>l.length-(intOf i).toNat)
 case atStart=>exact ⟨0,_,by omega,rfl,rfl,Hd rfl,R0,H0⟩
 case round =>
  clear e0 e1 R0 sc1
  obtain ⟨w1,rfl⟩:∃ w1,w1=wr:=⟨wr,rfl⟩
  obtain ⟨k,t,hkl,rfl,rfl,HT,HRr,HBr⟩:=hrel
  have e1:=HRr.out.cell HC1.out
  have zt:t.size≤20000000:=by
   rw [HT.out]
   have:=accS_size (⟨#[100,101,102,32]⟩++nm) ⟨#[40]⟩ ⟨#[59,32]⟩ 1048577 8 ((l.take k).map parS) (map_take_size parS l k _ HPS.out) (by rw [List.length_map,List.length_take];omega)
   rw [ByteArray.size_append] at this
   simp only [szl,List.size_toArray,List.length_cons,List.length_nil] at this
   omega
  by_cases hlt:k<l.length
  case neg =>
   obtain rfl:k=l.length:=by omega
   have HTE:=Hd (show t=accS (⟨#[100,101,102,32]⟩++nm) ⟨#[40]⟩ ⟨#[59,32]⟩ (l.map parS) by have h:=HT.out;rwa [List.take_length] at h)
   by_cases h0:l.length=0
   ·have HHE:=Hd (show headS y=t by
     have hl0:l=[]:=List.length_eq_zero_iff.1 h0
     rw [HHD.out,if_pos hl0,HTE.out,hl0]
     rfl)
    have hc0:¬ (0:Int)<(l.length:Int):=by omega
    rw [h0] at e1
    clear h0
    have sb1:(t:ByteArray).size+(⟨#[58,32]⟩:ByteArray).size≤9223372036854775807:=by simp only [szl,List.size_toArray,List.length_cons,List.length_nil];omega
    have sb2:(t++⟨#[58,32]⟩:ByteArray).size+(sb:ByteArray).size≤9223372036854775807:=by (repeat rw [ByteArray.size_append]);simp only [szl,List.size_toArray,List.length_cons,List.length_nil];omega
    have sb3:(t++⟨#[58,32]⟩++sb:ByteArray).size+(⟨#[59]⟩:ByteArray).size≤9223372036854775807:=by (repeat rw [ByteArray.size_append]);simp only [szl,List.size_toArray,List.length_cons,List.length_nil];omega
    have h00:(l.length:Int)=0:=by omega
    go_wp2_with ((with_reducible show wpList _ _ _ (⟨some 46,_,_,_,_,_⟩::_) _ _);refine wpList_load_mid rfl 34 _ rfl w.heap.size 2 rfl es _ (HRr.out.cells.partU HES.out) Tryz.underlying34 rfl hle.out ?_)
    refine (HK.out _ B N es hN (Nat.le_trans hB HBr.out.size) (HE.out.then HBr.out) (HBD.out.below (HBr.out.mono hB))).mono ?_
    rw [HSB.out]
    rintro e w2 ⟨rfl,hb2⟩
    have H2:=Hd (belowThen HBr.out hb2)
    clear hb2
    go_wp2_with fail
    go_ret
    exact ⟨by rw [HR.out,HHE.out];rfl,H2.out⟩
   ·have HHE:=Hd (show headS y=t++⟨#[41]⟩ by rw [HHD.out,if_neg (by intro h;rw [h] at h0;exact h0 rfl),← HTE.out])
    have hc0:(0:Int)<(l.length:Int):=by omega
    clear h0
    have sa:(t:ByteArray).size+(⟨#[41]⟩:ByteArray).size≤9223372036854775807:=by simp only [szl,List.size_toArray,List.length_cons,List.length_nil];omega
    have sb1:(t++⟨#[41]⟩:ByteArray).size+(⟨#[58,32]⟩:ByteArray).size≤9223372036854775807:=by (repeat rw [ByteArray.size_append]);simp only [szl,List.size_toArray,List.length_cons,List.length_nil];omega
    have sb2:(t++⟨#[41]⟩++⟨#[58,32]⟩:ByteArray).size+(sb:ByteArray).size≤9223372036854775807:=by (repeat rw [ByteArray.size_append]);simp only [szl,List.size_toArray,List.length_cons,List.length_nil];omega
    have sb3:(t++⟨#[41]⟩++⟨#[58,32]⟩++sb:ByteArray).size+(⟨#[59]⟩:ByteArray).size≤9223372036854775807:=by (repeat rw [ByteArray.size_append]);simp only [szl,List.size_toArray,List.length_cons,List.length_nil];omega
    go_wp2_with ((with_reducible show wpList _ _ _ (⟨some 46,_,_,_,_,_⟩::_) _ _);refine wpList_load_mid rfl 34 _ rfl w.heap.size 2 rfl es _ (HRr.out.cells.partU HES.out) Tryz.underlying34 rfl hle.out ?_)
    refine (HK.out _ B N es hN (Nat.le_trans hB HBr.out.size) (HE.out.then HBr.out) (HBD.out.below (HBr.out.mono hB))).mono ?_
    rw [HSB.out]
    rintro e w2 ⟨rfl,hb2⟩
    have H2:=Hd (belowThen HBr.out hb2)
    clear hb2
    go_wp2_with fail
    go_ret
    exact ⟨by rw [HR.out,HHE.out];rfl,H2.out⟩
  obtain ⟨b,o,rfl,hb,hget⟩:=HPA.out.get (by intro h;rw [h] at hlt;simp at hlt)
  obtain ⟨hpn,g1⟩:=hget k hlt
  obtain ⟨p,hp⟩:∃ p,l[k]=p:=⟨_,rfl⟩
  have HSTP:=Hd (show (l.take (k+1)).map parS=(l.take k).map parS++[parS p] by rw [map_take_step parS l hlt,hp])
  rw [hp] at g1 hpn
  have HG:=Hd (g1.below (HBr.out.mono hB) hb)
  have d0:w1.cell? ⟨b,o+k * 2,none⟩=some (.string p.name):=HG.out.getA (j:=0) (v:=.string p.name) rfl
  have d1:=HG.out.getA (j:=1) (v:=.bool p.value) rfl
  have zp:p.name.size≤1048576:=Nat.le_trans hpn hN
  obtain ⟨pn,hpn2⟩:∃ pn,p.name=pn:=⟨_,rfl⟩
  have HPN:=Hd hpn2
  rw [hpn2] at d0 zp
  clear g1 hget hp hpn hpn2
  by_cases h0:k=0
  ·subst h0
   rw [Nat.zero_mul,Nat.add_zero] at d0 d1
   have HTB:=Hd (show accS (⟨#[100,101,102,32]⟩++nm) ⟨#[40]⟩ ⟨#[59,32]⟩ ((l.take (0+1)).map parS)=t++⟨#[40]⟩++parS p by rw [HSTP.out,HT.out];rfl)
   have s1:(t:ByteArray).size+(⟨#[40]⟩:ByteArray).size≤9223372036854775807:=by simp only [szl,List.size_toArray,List.length_cons,List.length_nil];omega
   have s2:(t++⟨#[40]⟩:ByteArray).size+(pn:ByteArray).size≤9223372036854775807:=by (repeat rw [ByteArray.size_append]);simp only [szl,List.size_toArray,List.length_cons,List.length_nil];omega
   have s3:(t++⟨#[40]⟩:ByteArray).size+(⟨#[36]⟩:ByteArray).size≤9223372036854775807:=by (repeat rw [ByteArray.size_append]);simp only [szl,List.size_toArray,List.length_cons,List.length_nil];omega
   have s4:(t++⟨#[40]⟩++⟨#[36]⟩:ByteArray).size+(pn:ByteArray).size≤9223372036854775807:=by (repeat rw [ByteArray.size_append]);simp only [szl,List.size_toArray,List.length_cons,List.length_nil];omega
   by_cases hv:p.value=true
   ·rw [hv] at d1
    have HTN:=Hd (show accS (⟨#[100,101,102,32]⟩++nm) ⟨#[40]⟩ ⟨#[59,32]⟩ ((l.take (0+1)).map parS)=t++⟨#[40]⟩++⟨#[36]⟩++pn by rw [HTB.out,parS,if_pos hv,HPN.out];simp only [ByteArray.append_assoc])
    clear hv
    go_wp2_with fail
    go_roundw
    case rel=>exact ⟨0+1,_,by omega,by go_num,rfl,Hd HTN.out.symm,HRr,HBr⟩
    case measure=>simp [intOf];omega
   ·have hvf:p.value=false:=by simpa using hv
    rw [hvf] at d1
    have HTN:=Hd (show accS (⟨#[100,101,102,32]⟩++nm) ⟨#[40]⟩ ⟨#[59,32]⟩ ((l.take (0+1)).map parS)=t++⟨#[40]⟩++pn by rw [HTB.out,parS,if_neg hv,HPN.out])
    clear hv hvf
    go_wp2_with fail
    go_roundw
    case rel=>exact ⟨0+1,_,by omega,by go_num,rfl,Hd HTN.out.symm,HRr,HBr⟩
    case measure=>simp [intOf];omega
  ·have n1:((k:Int)==0)=false:=by simp;omega
   have HTB:=Hd (show accS (⟨#[100,101,102,32]⟩++nm) ⟨#[40]⟩ ⟨#[59,32]⟩ ((l.take (k+1)).map parS)=t++⟨#[59,32]⟩++parS p by rw [HSTP.out,accS_step _ _ _ _ (map_take_ne parS l hlt h0),← HT.out])
   clear h0
   have s1:(t:ByteArray).size+(⟨#[59,32]⟩:ByteArray).size≤9223372036854775807:=by simp only [szl,List.size_toArray,List.length_cons,List.length_nil];omega
   have s2:(t++⟨#[59,32]⟩:ByteArray).size+(pn:ByteArray).size≤9223372036854775807:=by (repeat rw [ByteArray.size_append]);simp only [szl,List.size_toArray,List.length_cons,List.length_nil];omega
   have s3:(t++⟨#[59,32]⟩:ByteArray).size+(⟨#[36]⟩:ByteArray).size≤9223372036854775807:=by (repeat rw [ByteArray.size_append]);simp only [szl,List.size_toArray,List.length_cons,List.length_nil];omega
   have s4:(t++⟨#[59,32]⟩++⟨#[36]⟩:ByteArray).size+(pn:ByteArray).size≤9223372036854775807:=by (repeat rw [ByteArray.size_append]);simp only [szl,List.size_toArray,List.length_cons,List.length_nil];omega
   by_cases hv:p.value=true
   ·rw [hv] at d1
    have HTN:=Hd (show accS (⟨#[100,101,102,32]⟩++nm) ⟨#[40]⟩ ⟨#[59,32]⟩ ((l.take (k+1)).map parS)=t++⟨#[59,32]⟩++⟨#[36]⟩++pn by rw [HTB.out,parS,if_pos hv,HPN.out];simp only [ByteArray.append_assoc])
    clear hv
    go_wp2_with fail
    go_roundw
    case rel=>exact ⟨k+1,_,by omega,by go_num,rfl,Hd HTN.out.symm,HRr,HBr⟩
    case measure=>simp [intOf];omega
   ·have hvf:p.value=false:=by simpa using hv
    rw [hvf] at d1
    have HTN:=Hd (show accS (⟨#[100,101,102,32]⟩++nm) ⟨#[40]⟩ ⟨#[59,32]⟩ ((l.take (k+1)).map parS)=t++⟨#[59,32]⟩++pn by rw [HTB.out,parS,if_neg hv,HPN.out])
    clear hv hvf
    go_wp2_with fail
    go_roundw
    case rel=>exact ⟨k+1,_,by omega,by go_num,rfl,Hd HTN.out.symm,HRr,HBr⟩
    case measure=>simp [intOf];omega
set_option maxRecDepth 100000 in
set_option maxHeartbeats 6400000 in
theorem word_23 (f:ExprD→ByteArray) (x:ExprD) (ho:x.op=23) (hn:x.args.length=1) (hz:∀ u∈x.funcs,u.params.length≤8) (hk:∀ i (h:i<x.funcs.length),SrcR f x.funcs[i].body∧(f x.funcs[i].body).size≤274877906944) (hfit:(defsS f x.funcs).size≤549755813888) (k0:SrcR f (x.args.getD 0 default)) (kz:(f (x.args.getD 0 default)).size≤274877906944)
 (w:World) (B N:Nat) (cs:List Value) (hN:N≤1048576) (hB:B≤w.heap.size) (hE:Env w) (hx:ExprD.At w B N x cs):Calls Tryz.prog 71 #[.agg cs.toArray] w (StrB (stepT f x) w):=by
 have HX:=Hd hx
 have HE:=Hd hE
 have HO:=Hd ho
 have HK:=Hd hk
 have HZ:=Hd hz
 have K0:=Hd k0
 have KZ:=Hd kz
 have HFIT:=Hd hfit
 obtain ⟨aa,fa,ac,fc,vs,hh⟩:=hx.has
 have HC0:=Hd (show cs[0]?=some (.int .i64 23) by rw [← ho];exact hh.op)
 have HFN:=Hd hh.atFuncs
 obtain ⟨b,o,haa,hb,hget⟩:=args_at hh (n:=1) hn (by decide)
 have HC15:=Hd (show cs[15]?=some (.slice (some ⟨b,o,none⟩) 1 ac) by rw [hh.args,hn,haa])
 obtain ⟨l,hl0⟩:∃ l,x.funcs=l:=⟨_,rfl⟩
 have HL:=Hd hl0
 have HC16:=Hd (show cs[16]?=some (.slice fa l.length fc) by rw [← hl0];exact hh.funcs)
 rw [hl0] at HFN HK HZ HFIT
 obtain ⟨a0,r0,q0⟩:=hget 0 (by decide)
 have HR0:=Hd (show CellsAt w b o a0 by simpa using r0)
 have HQ0:=Hd q0
 have hla:=Hd (show (Tryz.prog.info? 34).map (·.size)=some a0.length by rw [q0.len];kernel_rfl)
 have R0:=Hd (RowT.new w 34 cs)
 have H0:=Hd (belowBox w (.cells cs.toArray 34))
 have e0:=R0.out.cell HC0.out
 have e15:=R0.out.cell HC15.out
 have e16:=R0.out.cell HC16.out
 obtain ⟨sb,hsb⟩:∃ sb,bodyS f (x.args.getD 0 default)=sb:=⟨_,rfl⟩
 have HSB:=Hd hsb
 have zb:sb.size≤274877906946:=by
  rw [← hsb]
  exact Nat.le_trans (bodyS_size f _) (Nat.add_le_add_right kz 2)
 have HR:=Hd (show stepT f x=defsS f l++sb by
  unfold stepT
  rw [HO.out]
  simp only [if_true,if_false,Int.reduceEq]
  rw [hsb,hl0])
 clear hx hE hh ho hk hz k0 kz hfit hn haa hget r0 q0 hl0 hsb
 go_enter Tryz.func71,Tryz.ntmps71
 go_wp2_with fail
 go_simp
 have zl:l.length≤549755813888:=Nat.le_trans (defsS_len f l) HFIT.out
 go_loopw [3,4] (fun v i wr=>∃ (k:Nat) (t:ByteArray),k≤l.length∧i=.int .i64 k∧v=.string t∧Hid (t=defsS f (l.take k))∧Hid (RowT 34 wr w.heap.size cs)∧Hid (Below w.heap.size w wr)) (fun _ i _=>l.length-(intOf i).toNat)
 case atStart=>exact ⟨0,⟨#[]⟩,by omega,rfl,rfl,Hd rfl,R0,H0⟩
 case round =>
  clear e0 e15 e16 R0
  obtain ⟨w1,rfl⟩:∃ w1,w1=wr:=⟨wr,rfl⟩
  obtain ⟨k,t,hkl,rfl,rfl,HT,HRr,HBr⟩:=hrel
  have e15:=HRr.out.cell HC15.out
  have e16:=HRr.out.cell HC16.out
  have zt:t.size≤549755813888:=by rw [HT.out];exact Nat.le_trans (defsS_part f l k) HFIT.out
  by_cases hlt:k<l.length
  case neg =>
   obtain rfl:k=l.length:=by omega
   have HTE:=Hd (show t=defsS f l by have h:=HT.out;rwa [List.take_length] at h)
   have sc1:t.size+sb.size≤9223372036854775807:=by omega
   go_wp2_with ((with_reducible show wpList _ _ _ (⟨some 170,_,_,_,_,_⟩::_) _ _);refine wpList_load_mid rfl 34 _ rfl b o rfl a0 _ (HR0.out.below (HBr.out.mono hB) hb).range Tryz.underlying34 rfl hla.out ?_)
   refine (body_r f _ K0.out KZ.out _ B N a0 hN (Nat.le_trans hB HBr.out.size) (HE.out.then HBr.out) (HQ0.out.below (HBr.out.mono hB))).mono ?_
   rw [HSB.out]
   rintro e w2 ⟨rfl,hb2⟩
   have H2:=Hd (belowThen HBr.out hb2)
   clear hb2
   go_wp2_with fail
   go_ret
   exact ⟨by rw [HR.out,← HTE.out];rfl,H2.out⟩
  obtain ⟨b2,o2,rfl,hb2,hget2⟩:=HFN.out.get (by intro h;rw [h] at hlt;simp at hlt)
  obtain ⟨fs,g1,g2⟩:=hget2 k hlt
  have hlf:=Hd (show (Tryz.prog.info? 72).map (·.size)=some fs.length by rw [g2.len];kernel_rfl)
  have HFR:=Hd (g1.below (HBr.out.mono hB) hb2)
  have HQF:=Hd (show ∀ u,Below w.heap.size w u→FuncD.At u B N l[k] fs from fun u hu=>FuncD.At.below (hu.mono hB) _ g2)
  obtain ⟨d,hd⟩:∃ d,defS f l[k]=d:=⟨_,rfl⟩
  have HD:=Hd hd
  have HSTP:=Hd (show defsS f (l.take (k+1))=t++d++⟨#[32]⟩ by rw [defsS_step f l hlt,← HT.out,hd,ByteArray.append_assoc])
  have zt2:(t++d++⟨#[32]⟩).size≤549755813888:=by rw [← HSTP.out];exact Nat.le_trans (defsS_part f l (k+1)) HFIT.out
  have zt3:=zt2
  rw [ByteArray.size_append,ByteArray.size_append] at zt3
  have zt4:(⟨#[32]⟩:ByteArray).size=1:=rfl
  rw [zt4] at zt3
  have sc1:t.size+d.size≤9223372036854775807:=by omega
  have sc2:(t++d).size+(⟨#[32]⟩:ByteArray).size≤9223372036854775807:=by rw [ByteArray.size_append,zt4];omega
  have HP8:=Hd (HZ.out _ (List.getElem_mem hlt))
  have HKK:=Hd (HK.out k hlt)
  clear g1 g2 hget2 hd zt2 zt3 zt4
  go_wp2_with ((with_reducible show wpList _ _ _ (⟨some 162,_,_,_,_,_⟩::_) _ _);refine wpList_load_mid rfl 72 _ rfl b2 (o2+k * 19) rfl fs _ HFR.out.range Tryz.underlying72 rfl hlf.out ?_)
  refine (def_r f l[k] HKK.out.1 HKK.out.2 HP8.out _ B N fs hN (Nat.le_trans hB HBr.out.size) (HE.out.then HBr.out) (HQF.out _ HBr.out)).mono ?_
  rw [HD.out]
  rintro e w3 ⟨rfl,hb3⟩
  have HB3:=Hd (belowThen HBr.out hb3)
  have HR3:=Hd (HRr.out.then hb3)
  clear hb3
  go_wp2_with fail
  go_roundw
  case rel=>exact ⟨k+1,_,by omega,by go_num,rfl,Hd HSTP.out.symm,HR3,HB3⟩
  case measure=>simp [intOf];omega
end Go.Proofs.YtiefeajappjnbaaGreatDoor
