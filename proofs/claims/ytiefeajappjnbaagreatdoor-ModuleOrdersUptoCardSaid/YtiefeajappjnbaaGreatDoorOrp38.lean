/- The program's order of modules: module.Order. -/
import Derived.Test.YtiefeajappjnbaaGreatDoorGA
import Derived.Test.YtiefeajappjnbaaGreatDoorNmp38
import Derived.Test.YtiefeajappjnbaaGreatDoorMtp36
import Derived.Deep.OwnRows
import Derived.WalkMore
namespace Go.Proofs.YtiefeajappjnbaaGreatDoor
open Go.RowKit Go.Maps
theorem infoInt:(Tryz.prog.info? 3).map (fun i=>(i.zero,i.size,i.bytes))=some (some (.int .i64 0),1,8):=by kernel_rfl
theorem infoBool:(Tryz.prog.info? 4).map (fun i=>(i.zero,i.size,i.bytes))=some (some (.bool false),1,1):=by kernel_rfl
def boolsV (ch:List Bool):List Value:=ch.map Value.bool
def intsV (ns:List Nat):List Value:=ns.map fun n:Nat=>Value.int .i64 (n:Int)
theorem row_made (w:World) (n:Nat):RowT 4 (w.alloc (.cells (madeCells #[.bool false] n) 4)) w.heap.size (boolsV (List.replicate n false)):=by
 unfold RowT boolsV
 rw [heap_alloc_new]
 congr 2
 apply Array.toList_inj.1
 rw [toList_madeCells_one]
 simp
theorem ints_of_own {w:World} {lo:Nat} {t:TypeId} {v:Value} {ns:List Nat} (h:w.ownsRow lo t 1 v ns.length (intsV ns)):IntsV w v ns:=by
 obtain ⟨a,c,h1,h2,h3⟩:=cellsV_of_own h
 refine ⟨a,c,h1,fun hn=>?_⟩
 obtain ⟨g,e,_,hc⟩:=h3 (fun e=>hn (List.length_eq_zero_iff.1 e))
 exact ⟨g,e,hc⟩
def lenOf:Value→Nat
 | .slice _ n _=>n
 | _=>0
theorem own_shape {w:World} {lo n:Nat} {t:TypeId} {v:Value} {xs:List Value} (h:w.ownsRow lo t 1 v n xs):∃ a c,v=.slice a n c:=by
 obtain ⟨a,c,h1,_⟩:=cellsV_of_own h
 exact ⟨a,c,h1⟩
structure OrdS (l:List ModD) (w:World) (lo cb mb:Nat) (ch:List Bool) (out:List Nat) (v:Value) (u:World):Prop where
 row:RowT 4 u cb (boolsV ch)
 own:u.ownsRow lo 3 1 v out.length (intsV out)
 bel:Below w.heap.size w u
 idx:IdxAt u mb l.length (strs (nmsM l))
 loA:lo≤u.heap.size
 lt:mb<cb∧cb<lo∧w.heap.size≤mb
theorem OrdS.then {l:List ModD} {w u u':World} {lo cb mb:Nat} {ch:List Bool} {out:List Nat} {v:Value} (h:OrdS l w lo cb mb ch out v u) (hb:Below u.heap.size u u'):OrdS l w lo cb mb ch out v u' :=
 ⟨h.row.then hb,own_then' h.own hb,belowThen h.bel hb,h.idx.later hb,Nat.le_trans h.loA hb.size,h.lt⟩
theorem OrdS.store {l:List ModD} {w u:World} {lo cb mb:Nat} {ch:List Bool} {out:List Nat} {v:Value} (h:OrdS l w lo cb mb ch out v u) (k:Nat):OrdS l w lo cb mb (ch.set k true) out v (u.setCell ⟨cb,k,none⟩ (.bool true)):=by
 obtain ⟨l1,l2,l3⟩:=h.lt
 refine ⟨?_,?_,h.bel.setCell (by show w.heap.size≤cb;omega) _,h.idx.block (heap_setCell_other _ _ _ _ (by show mb≠cb;omega)),by simpa using h.loA,h.lt⟩
 ·have:=h.row.set k (.bool true)
  unfold boolsV at this ⊢
  rwa [List.map_set]
 ·refine ⟨h.own.1,?_⟩
  rcases h.own.2 with hn | ⟨g,cap,cur,rfl,h1,h2,rest⟩
  ·exact .inl hn
  ·exact .inr ⟨g,cap,cur,rfl,h1,(heap_setCell_other _ _ _ _ (by show g≠cb;omega)).trans h2,rest⟩
theorem OrdS.grown {l:List ModD} {w u u':World} {lo cb mb:Nat} {ch:List Bool} {out:List Nat} {v v':Value} {k:Nat} (h:OrdS l w lo cb mb ch out v u) (o:Obj)
 (hown:u'.ownsRow lo 3 1 v' (out.length+1) (intsV out++[.int .i64 (k:Int)])) (hg:(u.alloc o).grownBy u' v.ownBlock):OrdS l w lo cb mb ch (out++[k]) v' u':=by
 obtain ⟨l1,l2,l3⟩:=h.lt
 have h2:OrdS l w lo cb mb ch out v (u.alloc o):=h.then (belowBox u o)
 have hne:∀ q,q<lo→some q≠v.ownBlock:=fun q hq e=>by have:=(h.own.lt q e.symm).1;omega
 refine ⟨(hg.block cb h2.row.lt (hne cb l2)).trans h2.row,?_,Below.grown h2.bel hg (Nat.le_trans h.bel.size (by rw [World.size_alloc];omega)) (fun j hj=>by have:=(h2.own.lt j hj).1;omega),h2.idx.block (hg.block mb h2.idx.lt (hne mb (by omega))),Nat.le_trans h2.loA hg.size,h.lt⟩
 unfold intsV at hown ⊢
 rw [List.length_append,List.map_append]
 exact hown
theorem getD_true {ch:List Bool} {k:Nat} {b:Bool} (h:ch[k]?=some b):ch.getD k false=b:=by rw [List.getD_eq_getElem?_getD,h];rfl
theorem bools_get {ch:List Bool} {k:Nat} {b:Bool} (h:ch[k]?=some b):(boolsV ch)[k]?=some (.bool b):=by unfold boolsV;rw [List.getElem?_map,h];rfl
theorem ord_ok {l:List ModD} {out:List Nat} {v:Value} {w w':World} (h:ordR l=(out,0)) (hv:IntsV w' v out) (hb:Below w.heap.size w w'):OrdR l w (.returned (.tuple #[v,.int .i64 0])) w':=⟨_,by rw [h],by rw [h];exact hv,hb⟩
set_option maxRecDepth 100000 in
set_option maxHeartbeats 12800000 in
theorem order_p (l:List ModD) (a:Option Addr) (c:Nat) (w:World) (B N:Nat) (hN:N≤1048576) (h4:4≤B) (hB:B≤w.heap.size) (hE:Env w) (hl:l.length≤20)
 (hs:∀ i (hi:i<l.length),smlF l[i].funcs∧(absB l[i].main=false→smlE l[i].main)) (hA:ModsAt w B N l a):Calls Tryz.prog 13 #[.slice a l.length c] w (OrdR l w):=by
 have HA:=Hd hA
 have HE:=Hd hE
 have HS:=Hd hs
 clear hA hE hs
 have hmk:=fun u=>run_make_row' (P:=Tryz.prog) 85 4 (.bool false) 1 Tryz.underlying85 infoBool rfl .i64 .i64 l.length (by omega) (by omega) u
 have HMK:=Hd hmk
 clear hmk
 go_enter Tryz.func13,Tryz.ntmps13
 go_wp2_with fail
 go_step3
 go_wp2_with fail
 go_simp
 go_loopw [18] (fun i wr=>∃ k:Nat,k≤l.length∧i=.int .i64 k∧Hid (modsE l=modsE (l.drop k))∧Hid (Below w.heap.size w wr)) (fun i _=>l.length-(intOf i).toNat)
 case atStart=>exact ⟨0,by omega,rfl,Hd rfl,Hd (Below.refl _ _)⟩
 case round =>
  obtain ⟨w1,rfl⟩:∃ w1,w1=wr:=⟨wr,rfl⟩
  obtain ⟨k,hk,rfl,HME,HBr⟩:=hrel
  by_cases hlt:k<l.length
  case pos =>
   obtain ⟨b,o,rfl,hb,hget⟩:=HA.out.get (by intro h;rw [h] at hlt;simp at hlt)
   obtain ⟨cs,g1,g2⟩:=hget k hlt
   have HG:=Hd (g1.below (HBr.out.mono hB) hb)
   have hl1:=Hd (show (Tryz.prog.info? 44).map (·.size)=some cs.length by rw [g2.len];exact sizeMOD)
   have hl2:=Hd (show (Tryz.prog.info? 44).map (·.size)=some cs.toArray.size by rw [List.size_toArray,g2.len];exact sizeMOD)
   have h20:=Hd (show 20=cs.toArray.size by rw [List.size_toArray,g2.len])
   have hone:=Hd (show cs.toArray.all (·.oneCell')=true from Go.all_oneCell_toArray g2.one)
   have HB1:=Hd (show Below w.heap.size w (w1.alloc (.cells cs.toArray 44)) from belowThen HBr.out (belowBox w1 _))
   have HBX:=Hd (RowT.new w1 44 cs)
   have HM1:=Hd (g2.below (HB1.out.mono hB))
   obtain ⟨z,hz⟩:∃ z,modE l[k]=z:=⟨_,rfl⟩
   have HZ:=Hd hz
   have HST:=Hd (HME.out.trans (modsE_step hlt))
   rw [hz] at HST
   clear g1 g2 hget hz
   go_wp2_with (first
    | ((with_reducible show wpList _ _ _ (⟨some 21,_,_,_,_,_⟩::_) _ _);refine wpList_load_mid rfl 44 _ rfl b (o+k * 20) rfl cs _ HG.out.range Tryz.underlying44 rfl hl1.out ?_)
    | ((with_reducible show wpList _ _ _ (⟨none,.store 44 (.tmp 5) (.tmp 21),_,_,_,_⟩::_) _ _);refine wpList_store_new rfl 44 _ _ rfl _ cs.toArray rfl rfl hl2.out h20.out hone.out ?_)
    | ((with_reducible show wpList _ _ _ (⟨some 23,_,_,_,_,_⟩::_) _ _);refine wpList_load_mid rfl 44 _ rfl w1.heap.size 0 rfl cs _ HBX.out.range Tryz.underlying44 rfl hl1.out ?_))
   refine (mtext_p l[k] _ B N cs hN h4 (Nat.le_trans hB HB1.out.size) (HE.out.then HB1.out) (HS.out k hlt).1 (HS.out k hlt).2 HM1.out).mono ?_
   rintro e w2 ⟨rfl,hb2⟩
   have HB2:=Hd (belowThen HB1.out hb2)
   clear hb2
   rw [HZ.out]
   by_cases h0:z=0
   case neg =>
    have HR:=Hd (show modsE l=z by rw [HST.out,if_pos h0])
    have HR2:=Hd (show ordR l=([],z) by rw [ordR_m (by rw [HR.out];exact h0),HR.out])
    have n1:(z==0)=false:=by simpa using h0
    have n2:(z != 0)=true:=by simpa using h0
    clear h0
    go_wp2_with fail
    (try rw [Exit.noGoto_ret]);go_ret2
    exact ord_err HR2.out HB2.out
   subst h0
   have HR:=Hd (show modsE l=modsE (l.drop (k+1)) by rw [HST.out,if_neg (by simp)])
   go_wp2_with fail
   go_roundw
   case rel=>exact ⟨k+1,by omega,by go_num,HR,HB2⟩
   case measure=>simp [intOf];omega
  obtain rfl:k=l.length:=by omega
  have HM0:=Hd (show modsE l=0 by rw [HME.out,modsE_end])
  clear HME
  by_cases hbig:16<l.length
  ·have HR:=Hd (ordR_s HM0.out hbig)
   go_wp2_with fail
   (try rw [Exit.noGoto_ret]);go_ret2
   exact ord_err HR.out HBr.out
  have HBG:=Hd hbig
  have hl16:l.length≤16:=by omega
  obtain ⟨z,hz⟩:∃ z,nmsE l=z:=⟨_,rfl⟩
  have HZ:=Hd hz
  clear hz hl hlt
  go_wp2_with fail
  refine (names_p l a c w1 B N hN (Nat.le_trans hB HBr.out.size) hl16 (ModsAt.below (HBr.out.mono hB) _ HA.out)).mono ?_
  rintro e w2 ⟨mv,rfl,hb2,hx⟩
  have HB2:=Hd (belowThen HBr.out hb2)
  have hbs:=hb2.size
  have hws:=HBr.out.size
  clear hb2
  rw [HZ.out] at hx ⊢
  by_cases h0:z=0
  case neg =>
   have HR:=Hd (show ordR l=([],z) by rw [ordR_n HM0.out HBG.out (by rw [HZ.out];exact h0),HZ.out])
   have n1:(z==0)=false:=by simpa using h0
   have n2:(z != 0)=true:=by simpa using h0
   clear h0 hx
   go_wp2_with fail
   (try rw [Exit.noGoto_ret]);go_ret2
   exact ord_err HR.out HB2.out
  subst h0
  obtain ⟨mb,rfl,hmb,hx⟩:=hx rfl
  have HIV:=Hd (nmsE_inv HZ.out)
  have HINIT:=Hd (show OrdS l w (w2.heap.size+1) w2.heap.size mb (List.replicate l.length false) [] (.slice none 0 0) (w2.alloc (.cells (madeCells #[.bool false] l.length) 4)) from
   ⟨row_made w2 l.length,World.ownsRow_nil _ _ _ _,belowThen HB2.out (belowBox w2 _),hx.later (belowBox w2 _),by rw [World.size_alloc];omega,hx.lt,by omega,by omega⟩)
  have HLT:=Hd (show mb<w2.heap.size from hx.lt)
  clear hx hmb
  have hmk:=HMK.out w2
  go_wp2_with fail
  go_step3
  go_wp2_with fail
  clear hmk
  go_simp
  obtain ⟨i0,hi,hz0,hz1,hz2⟩:=info_parts infoInt
  have HI:=Hd hi
  have HZ0:=Hd hz0
  have HZ1:=Hd hz1
  have HZ2:=Hd hz2
  clear hi hz0 hz1 hz2
  go_loopw [10] (fun ov wr=>∃ (ch:List Bool) (out:List Nat),out.length≤l.length∧Hid (ch.length=l.length)∧Hid (restO l ch out=ordO l)∧Hid (lenOf ov=out.length)∧Hid (OrdS l w (w2.heap.size+1) w2.heap.size mb ch out ov wr)) (fun ov _=>l.length-lenOf ov)
  case atStart=>exact ⟨_,[],by simp,Hd (by simp),Hd (rest_0 l),Hd rfl,HINIT⟩
  case round =>
   clear HINIT
   obtain ⟨w3,rfl⟩:∃ w3,w3=wr:=⟨wr,rfl⟩
   obtain ⟨ch,out,hout,HCL,HRS,HLN,HST⟩:=hrel
   obtain ⟨oa,oc,rfl⟩:=own_shape HST.out.own
   by_cases hol:out.length<l.length
   case neg =>
    have HR:=Hd (ordR_o HM0.out HBG.out HZ.out (HRS.out.symm.trans (rest_end (by omega))))
    go_wp2_with fail
    (try rw [Exit.noGoto_ret]);go_ret2
    exact ord_ok HR.out (ints_of_own HST.out.own) HST.out.bel
   go_wp2_with fail
   go_step3
   go_wp2_with fail
   go_step3
   go_wp2_with fail
   go_simp
   go_loopw [10,52] (fun ov i wr=>∃ k:Nat,k≤l.length∧i=.int .i64 k∧ov=.slice oa out.length oc∧Hid (∀ j,j<k→pickB l ch j=false)∧Hid (OrdS l w (w2.heap.size+1) w2.heap.size mb ch out (.slice oa out.length oc) wr)) (fun _ i _=>l.length-(intOf i).toNat)
   case atStart=>exact ⟨0,by omega,rfl,rfl,Hd (fun j hj=>absurd hj (by omega)),HST⟩
   case round =>
    clear HST
    obtain ⟨w4,rfl⟩:∃ w4,w4=wr:=⟨wr,rfl⟩
    obtain ⟨k,hk,rfl,rfl,HNP,HST⟩:=hrel
    by_cases hlt:k<l.length
    case neg =>
     obtain rfl:k=l.length:=by omega
     have HR:=Hd (ordR_c HM0.out HBG.out HZ.out (HRS.out.symm.trans (rest_none hol (next_none HNP.out))))
     go_wp2_with fail
     (try rw [Exit.noGoto_ret]);(try rw [Exit.noGoto_ret]);go_ret2
     exact ord_err HR.out HST.out.bel
    obtain ⟨b,o,rfl,hb,hget⟩:=HA.out.get (by intro h;rw [h] at hlt;simp at hlt)
    obtain ⟨cs,g1,g2⟩:=hget k hlt
    have hBw:=Hd (HST.out.bel.mono hB)
    have HG:=Hd (g1.below hBw.out hb)
    have hl1:=Hd (show (Tryz.prog.info? 44).map (·.size)=some cs.length by rw [g2.len];exact sizeMOD)
    have hl2:=Hd (show (Tryz.prog.info? 44).map (·.size)=some cs.toArray.size by rw [List.size_toArray,g2.len];exact sizeMOD)
    have h20:=Hd (show 20=cs.toArray.size by rw [List.size_toArray,g2.len])
    have hone:=Hd (show cs.toArray.all (·.oneCell')=true from Go.all_oneCell_toArray g2.one)
    have HBX:=Hd (RowT.new w4 44 cs)
    have HST1:=Hd (HST.out.then (belowBox w4 (.cells cs.toArray 44)))
    have HM1:=Hd (g2.below (HST1.out.bel.mono hB))
    have hB1:=Hd (Nat.le_trans hB HST1.out.bel.size)
    obtain ⟨ims,hims⟩:∃ ims,imsM l[k]=ims:=⟨_,rfl⟩
    have HIM:=Hd hims
    have HIN:=Hd (show ims.length=l[k].imps.length by rw [← hims];exact List.length_map _)
    have HIG:=Hd (show ∀ q (h:q<ims.length) (h2:q<l[k].imps.length),ims[q]=l[k].imps[q].1 by
     subst hims
     intro q h h2
     exact List.getElem_map _)
    have HZS:=Hd (g2.impSize)
    have hzi:ims.length≤1048576:=by rw [HIN.out];exact Nat.le_trans g2.impLen hN
    clear g1 g2 hget hims
    obtain ⟨x,hx⟩:∃ x,ch[k]?=some x:=⟨_,List.getElem?_eq_getElem (by rw [HCL.out];exact hlt)⟩
    have HX:=Hd hx
    have eC:=HST1.out.row.cell (bools_get hx)
    clear hx
    cases x
    case true =>
     have HNP2:=Hd (show ∀ j,j<k+1→pickB l ch j=false from fun j hj=>by
      by_cases he:j=k
      ·subst he;exact pick_ch (getD_true HX.out)
      ·exact HNP.out j (by omega))
     go_wp2_with (first
      | ((with_reducible show wpList _ _ _ (⟨some 56,_,_,_,_,_⟩::_) _ _);refine wpList_load_mid rfl 44 _ rfl b (o+k * 20) rfl cs _ HG.out.range Tryz.underlying44 rfl hl1.out ?_)
      | ((with_reducible show wpList _ _ _ (⟨none,.store 44 (.tmp 13) (.tmp 56),_,_,_,_⟩::_) _ _);refine wpList_store_new rfl 44 _ _ rfl _ cs.toArray rfl rfl hl2.out h20.out hone.out ?_))
     go_roundw
     case rel=>exact ⟨k+1,by omega,by go_num,rfl,HNP2,HST1⟩
     case measure=>simp [intOf];omega
    go_wp2_with (first
     | ((with_reducible show wpList _ _ _ (⟨some 56,_,_,_,_,_⟩::_) _ _);refine wpList_load_mid rfl 44 _ rfl b (o+k * 20) rfl cs _ HG.out.range Tryz.underlying44 rfl hl1.out ?_)
     | ((with_reducible show wpList _ _ _ (⟨none,.store 44 (.tmp 13) (.tmp 56),_,_,_,_⟩::_) _ _);refine wpList_store_new rfl 44 _ _ rfl _ cs.toArray rfl rfl hl2.out h20.out hone.out ?_)
     | ((with_reducible show wpList _ _ _ (⟨some 61,_,_,_,_,_⟩::_) _ _);refine wpList_load_mid rfl 44 _ rfl w4.heap.size 0 rfl cs _ HBX.out.range Tryz.underlying44 rfl hl1.out ?_))
    refine (imported_p l[k] _ B N cs hN hB1.out HM1.out).mono ?_
    rw [HIM.out]
    rintro e w5 ⟨v,rfl,⟨ga,gc,rfl,hgn,hgc⟩,hb5⟩
    have HST5:=Hd (HST1.out.then hb5)
    have HGC:=Hd hgc
    clear hgn hgc hb5 eC
    go_wp2_with fail
    go_simp
    go_loopw [64] (fun i wr=>∃ q:Nat,q≤ims.length∧i=.int .i64 q∧Hid (∀ j (hj:j<l[k].imps.length),j<q→chB ch (fnd l l[k].imps[j].1)=true)∧w5=wr) (fun i _=>ims.length-(intOf i).toNat)
    case atStart=>exact ⟨0,by omega,rfl,Hd (fun j _ hj=>absurd hj (by omega)),rfl⟩
    case round =>
     obtain ⟨q,hq,rfl,HF,rfl⟩:=hrel
     by_cases hqt:q<ims.length
     case neg =>
      have HRY:=Hd (show readyB l ch l[k]=true from ready_yes (fun j hj=>HF.out j hj (by have:=HIN.out;omega)))
      have HNX:=Hd (next_some hlt (pick_yes hlt (getD_true HX.out) HRY.out) HNP.out)
      have HRS2:=Hd (show restO l (ch.set k true) (out++[k])=ordO l from (rest_some hol HNX.out).symm.trans HRS.out)
      have eC:=HST5.out.row.cell (bools_get HX.out)
      have eF:=HST5.out.row.frozen k
      have HST6:=Hd (HST5.out.store k)
      have HSS:=Hd (show (w5.setCell ⟨w2.heap.size,k,none⟩ (.bool true)).heap.size=w5.heap.size by simp)
      have hlo:=HST5.out.loA
      go_wp2_with (first
       | (at_builtin;refine wpList_append_own _ rfl _ _ 50 rfl (w2.heap.size+1) 3 i0 (.int .i64 0) 1 8 Tryz.underlying50 HI.out HZ0.out HZ1.out HZ2.out rfl (by decide) _ out.length (intsV out) rfl (HST6.out.own.alloc _) ⟨w5.heap.size,0,none⟩ 1 1 [.int .i64 (k:Int)] rfl rfl (by have:=cell_one_new (w5.setCell ⟨w2.heap.size,k,none⟩ (.bool true)) (.int .i64 (k:Int)) 3;rwa [HSS.out] at this) (by simp [Value.oneCell']) (by unfold maxLen;omega) (by omega) (by rw [World.size_alloc,HSS.out];omega) ?_;intro v' w7 hown' hg7 hnil7;go_frame))
      have HST7:=Hd (HST6.out.grown _ hown' hg7)
      have HL7:=Hd (show lenOf v'=(out++[k]).length by
       obtain ⟨a9,c9,rfl⟩:=own_shape HST7.out.own
       rfl)
      rw [Exit.noGoto_exit]
      go_wp2_with fail
      go_roundw
      case rel=>exact ⟨ch.set k true,out++[k],by rw [List.length_append];simp;omega,Hd (by rw [List.length_set];exact HCL.out),HRS2,HL7,HST7⟩
      case measure=>rw [HL7.out];simp [lenOf];omega
     obtain ⟨g,rfl,hg,hgc⟩:=HGC.out (by omega)
     have d0:=hgc.getA (j:=q) (v:=.string ims[q]) (by rw [List.getElem?_map,List.getElem?_eq_getElem hqt];rfl)
     rw [Nat.zero_add] at d0
     have HQ2:q<l[k].imps.length:=by rw [← HIN.out];exact hqt
     obtain ⟨s,hs⟩:∃ s,ims[q]=s:=⟨_,rfl⟩
     have HS1:=Hd (show l[k].imps[q].1=s by rw [← hs];exact (HIG.out q hqt HQ2).symm)
     rw [hs] at d0
     have hsz:=Hd (show s.size≤maxLen by rw [← HS1.out];have:=HZS.out q HQ2;unfold maxLen;omega)
     obtain ⟨j,hj,hjl⟩:=HIV.out k hlt q HQ2
     rw [HS1.out] at hj
     have HJ:=Hd hj
     have HIX:=Hd (show ixOf (strs (nmsM l)) s.data.toList=some j by rw [ixOf_mods];exact hj)
     obtain ⟨x,hx⟩:∃ x,ch[j]?=some x:=⟨_,List.getElem?_eq_getElem (by rw [HCL.out];exact hjl)⟩
     have HXJ:=Hd (show chB ch (fnd l l[k].imps[q].1)=x by rw [HS1.out,HJ.out];exact getD_true hx)
     have eC:=HST5.out.row.cell (bools_get hx)
     clear hs hg hgc hj hx
     cases x
     case false =>
      have HNP2:=Hd (show ∀ j,j<k+1→pickB l ch j=false from fun j hj=>by
       by_cases he:j=k
       ·subst he;exact pick_no hlt (ready_no HQ2 HXJ.out)
       ·exact HNP.out j (by omega))
      go_wp2_with (at_lookup;refine wpList_at_idx rfl _ _ 82 rfl Tryz.underlying82 rfl HST5.out.idx s rfl hsz.out j HIX.out ?_)
      go_roundw
      case rel=>exact ⟨k+1,by omega,by go_num,rfl,HNP2,HST5⟩
      case measure=>simp [intOf];omega
     have HF2:=Hd (show ∀ j (hj:j<l[k].imps.length),j<q+1→chB ch (fnd l l[k].imps[j].1)=true from fun j hj hjq=>by
      by_cases he:j=q
      ·subst he;exact HXJ.out
      ·exact HF.out j hj (by omega))
     go_wp2_with (at_lookup;refine wpList_at_idx rfl _ _ 82 rfl Tryz.underlying82 rfl HST5.out.idx s rfl hsz.out j HIX.out ?_)
     go_roundw
     case rel=>exact ⟨q+1,by omega,by go_num,HF2,trivial⟩
     case measure=>simp [intOf];omega
end Go.Proofs.YtiefeajappjnbaaGreatDoor
