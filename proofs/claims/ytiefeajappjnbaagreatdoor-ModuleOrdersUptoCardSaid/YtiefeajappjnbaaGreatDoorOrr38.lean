/- The reference's order of modules: datakitref38.find, ready, Order. -/
import Derived.Test.YtiefeajappjnbaaGreatDoorGA
import Derived.Test.YtiefeajappjnbaaGreatDoorOrp38
namespace Go.Proofs.YtiefeajappjnbaaGreatDoor
open Go.RowKit
def FndR (l:List ModD) (s:ByteArray) (w:World) (e:Ending) (w':World):Prop:=e=.returned (.int .i64 (fndI l s))∧w'=w
theorem fnd_ret {l:List ModD} {s:ByteArray} {z:Int} {w w':World} (h:fndI l s=z) (hw:w'=w):FndR l s w (.returned (.int .i64 z)) w':=by subst h;exact ⟨rfl,hw⟩
set_option maxRecDepth 100000 in
set_option maxHeartbeats 6400000 in
theorem find_r (l:List ModD) (s:ByteArray) (a:Option Addr) (c:Nat) (w:World) (B N:Nat) (hl:l.length≤20) (hA:ModsAt w B N l a) :
 Calls Tryz.prog 36 #[.slice a l.length c,.string s] w (FndR l s w):=by
 have HA:=Hd hA
 clear hA
 go_enter Tryz.func36,Tryz.ntmps36
 go_wp2_with fail
 go_simp
 go_loopw [5] (fun i wr=>∃ k:Nat,k≤l.length∧i=.int .i64 k∧Hid (∀ j (hj:j<l.length),j<k→(l[j].name.toList==s.toList)=false)∧w=wr) (fun i _=>l.length-(intOf i).toNat)
 case atStart=>exact ⟨0,by omega,rfl,Hd (fun j _ hj=>absurd hj (by omega)),rfl⟩
 case round =>
  obtain ⟨k,hk,rfl,HN,rfl⟩:=hrel
  by_cases hlt:k<l.length
  case neg =>
   have HR:=Hd (fndI_none (fnd_none (fun j hj=>HN.out j hj (by omega))))
   go_wp2_with fail
   go_ret
   exact fnd_ret HR.out rfl
  obtain ⟨b,o,rfl,hb,hget⟩:=HA.out.get (by intro h;rw [h] at hlt;simp at hlt)
  obtain ⟨cs,g1,g2⟩:=hget k hlt
  obtain ⟨nm,hnm⟩:∃ nm,l[k].name=nm:=⟨_,rfl⟩
  have d0:w.cell? ⟨b,o+k * 20,none⟩=some (.string nm):=g1.getA (j:=0) (v:=.string nm) (by rw [← hnm];exact g2.name0)
  obtain ⟨x,hx⟩:∃ x,(nm.toList==s.toList)=x:=⟨_,rfl⟩
  have HX:=Hd (show (l[k].name.toList==s.toList)=x by rw [hnm];exact hx)
  clear g1 g2 hget hnm
  cases x
  case true =>
   have HR:=Hd (fndI_some (fnd_some hlt HX.out (fun j hj hjk=>HN.out j hj hjk)))
   go_wp2_with fail
   go_ret
   exact fnd_ret HR.out rfl
  have HN2:=Hd (show ∀ j (hj:j<l.length),j<k+1→(l[j].name.toList==s.toList)=false from fun j hj hjk=>by
   by_cases he:j=k
   ·subst he;exact HX.out
   ·exact HN.out j hj (by omega))
  go_wp2_with fail
  go_roundw
  case rel=>exact ⟨k+1,by omega,by go_num,HN2,trivial⟩
  case measure=>simp [intOf];omega
def RdyR (x:Bool) (w:World) (e:Ending) (w':World):Prop:=e=.returned (.bool x)∧Below w.heap.size w w'
theorem rdy_ret {x y:Bool} {w w':World} (h:x=y) (hb:Below w.heap.size w w'):RdyR x w (.returned (.bool y)) w':=by subst h;exact ⟨rfl,hb⟩
set_option maxRecDepth 100000 in
set_option maxHeartbeats 6400000 in
theorem ready_r (l:List ModD) (m:ModD) (ch:List Bool) (cb:Nat) (a:Option Addr) (c:Nat) (w:World) (B N:Nat) (cs:List Value) (hN:N≤1048576) (hl:l.length≤20) (hB:B≤w.heap.size) (hcl:ch.length=l.length)
 (hf:∀ q (hq:q<m.imps.length),∃ j,fnd l m.imps[q].1=some j∧j<l.length) (hR:RowT 4 w cb (boolsV ch)) (hA:ModsAt w B N l a) (hm:ModD.At w B N m cs) :
 Calls Tryz.prog 37 #[.slice a l.length c,.agg cs.toArray,.slice (some ⟨cb,0,none⟩) l.length l.length] w (RdyR (readyB l ch m) w):=by
 have HA:=Hd hA
 have HF:=Hd hf
 have HCL:=Hd hcl
 obtain ⟨ia,fa,ic,fc,es,hh⟩:=hm
 obtain ⟨ims,hims⟩:∃ ims,m.imps=ims:=⟨_,rfl⟩
 have HL:=Hd hims
 have HC1:=Hd (show cs[1]?=some (.slice ia ims.length ic) by rw [hh.cs,← hims];rfl)
 have HIA:=Hd (show ImpsAt w B N ims ia by rw [← hims];exact hh.atImp)
 have hll:ims.length≤1048576:=by rw [← hims];exact Nat.le_trans hh.hi hN
 have R0:=Hd (RowT.new w 44 cs)
 have H0:=Hd (belowBox w (.cells cs.toArray 44))
 have HRB:=Hd (hR.alloc (.cells cs.toArray 44))
 have HA1:=Hd (ModsAt.below (H0.out.mono hB) _ hA)
 have e1:=R0.out.cell HC1.out
 clear hh hims hA hf hR hcl
 go_enter Tryz.func37,Tryz.ntmps37
 go_wp2_with fail
 go_simp
 go_loopw [7] (fun i wr=>∃ k:Nat,k≤ims.length∧i=.int .i64 k∧Hid (∀ j (hj:j<m.imps.length),j<k→chB ch (fnd l m.imps[j].1)=true)∧w.alloc (.cells cs.toArray 44)=wr) (fun i _=>ims.length-(intOf i).toNat)
 case atStart=>exact ⟨0,by omega,rfl,Hd (fun j _ hj=>absurd hj (by omega)),rfl⟩
 case round =>
  obtain ⟨k,hk,rfl,HOK,rfl⟩:=hrel
  by_cases hlt:k<ims.length
  case neg =>
   have HR:=Hd (show readyB l ch m=true from ready_yes (fun j hj=>HOK.out j hj (by rw [HL.out] at hj;omega)))
   go_wp2_with fail
   go_ret
   exact rdy_ret HR.out H0.out
  obtain ⟨b,o,rfl,hb,hget⟩:=HIA.out.get (by intro h;rw [h] at hlt;simp at hlt)
  obtain ⟨⟨z1,z2⟩,g1⟩:=hget k hlt
  have hlm:k<m.imps.length:=by rw [HL.out];exact hlt
  obtain ⟨s,hs⟩:∃ s,ims[k].1=s:=⟨_,rfl⟩
  have HS:=Hd (show m.imps[k].1=s by rw [← hs];simp only [HL.out])
  have d0:(w.alloc (.cells cs.toArray 44)).cell? ⟨b,o+k * 2,none⟩=some (.string s):=(g1.below (H0.out.mono hB) hb).getA (j:=0) (v:=.string s) (by rw [← hs];rfl)
  obtain ⟨j,hj,hjl⟩:=HF.out k hlm
  rw [HS.out] at hj
  have HJ:=Hd hj
  have HFI:=Hd (fndI_some hj)
  obtain ⟨x,hx⟩:∃ x,ch[j]?=some x:=⟨_,List.getElem?_eq_getElem (by rw [HCL.out];exact hjl)⟩
  have HXJ:=Hd (show chB ch (fnd l m.imps[k].1)=x by rw [HS.out,HJ.out];exact getD_true hx)
  have eC:=HRB.out.cell (bools_get hx)
  clear g1 hget hs hj hx z1 z2
  go_wp2_with fail
  refine (find_r l s a c _ B N hl HA1.out).mono ?_
  rintro e w2 ⟨rfl,rfl⟩
  rw [HFI.out]
  cases x
  case false =>
   have HR:=Hd (show readyB l ch m=false from ready_no hlm HXJ.out)
   go_wp2_with fail
   go_ret
   exact rdy_ret HR.out H0.out
  have HOK2:=Hd (show ∀ j (hj:j<m.imps.length),j<k+1→chB ch (fnd l m.imps[j].1)=true from fun j hj hjk=>by
   by_cases he:j=k
   ·subst he;exact HXJ.out
   ·exact HOK.out j hj (by omega))
  go_wp2_with fail
  go_roundw
  case rel=>exact ⟨k+1,by omega,by go_num,HOK2,trivial⟩
  case measure=>simp [intOf];omega
structure OrdT (w:World) (lo cb:Nat) (ch:List Bool) (out:List Nat) (v:Value) (u:World):Prop where
 row:RowT 4 u cb (boolsV ch)
 own:u.ownsRow lo 3 1 v out.length (intsV out)
 bel:Below w.heap.size w u
 loA:lo≤u.heap.size
 lt:cb<lo∧w.heap.size≤cb
theorem OrdT.then {w u u':World} {lo cb:Nat} {ch:List Bool} {out:List Nat} {v:Value} (h:OrdT w lo cb ch out v u) (hb:Below u.heap.size u u'):OrdT w lo cb ch out v u' :=
 ⟨h.row.then hb,own_then' h.own hb,belowThen h.bel hb,Nat.le_trans h.loA hb.size,h.lt⟩
theorem OrdT.store {w u:World} {lo cb:Nat} {ch:List Bool} {out:List Nat} {v:Value} (h:OrdT w lo cb ch out v u) (k:Nat):OrdT w lo cb (ch.set k true) out v (u.setCell ⟨cb,k,none⟩ (.bool true)):=by
 obtain ⟨l2,l3⟩:=h.lt
 refine ⟨?_,?_,h.bel.setCell (by show w.heap.size≤cb;omega) _,by simpa using h.loA,h.lt⟩
 ·have:=h.row.set k (.bool true)
  unfold boolsV at this ⊢
  rwa [List.map_set]
 ·refine ⟨h.own.1,?_⟩
  rcases h.own.2 with hn | ⟨g,cap,cur,rfl,h1,h2,rest⟩
  ·exact .inl hn
  ·exact .inr ⟨g,cap,cur,rfl,h1,(heap_setCell_other _ _ _ _ (by show g≠cb;omega)).trans h2,rest⟩
theorem OrdT.grown {w u u':World} {lo cb:Nat} {ch:List Bool} {out:List Nat} {v v':Value} {k:Nat} (h:OrdT w lo cb ch out v u) (o:Obj)
 (hown:u'.ownsRow lo 3 1 v' (out.length+1) (intsV out++[.int .i64 (k:Int)])) (hg:(u.alloc o).grownBy u' v.ownBlock):OrdT w lo cb ch (out++[k]) v' u':=by
 obtain ⟨l2,l3⟩:=h.lt
 have h2:OrdT w lo cb ch out v (u.alloc o):=h.then (belowBox u o)
 have hne:∀ q,q<lo→some q≠v.ownBlock:=fun q hq e=>by have:=(h.own.lt q e.symm).1;omega
 refine ⟨(hg.block cb h2.row.lt (hne cb l2)).trans h2.row,?_,Below.grown h2.bel hg (Nat.le_trans h.bel.size (by rw [World.size_alloc];omega)) (fun j hj=>by have:=(h2.own.lt j hj).1;omega),Nat.le_trans h2.loA hg.size,h.lt⟩
 unfold intsV at hown ⊢
 rw [List.length_append,List.map_append]
 exact hown
def NxS (l:List ModD) (ch:List Bool) (k:Nat) (nx:Int):Prop :=
 (nx=-1∧∀ j,k≤j→j<l.length→pickB l ch j=false)∨∃ p:Nat,nx=(p:Int)∧k≤p∧p<l.length∧pickB l ch p=true∧∀ j,k≤j→j<p→pickB l ch j=false
theorem NxS.start (l:List ModD) (ch:List Bool):NxS l ch l.length (-1):=.inl ⟨rfl,fun j h1 h2=>absurd h2 (by omega)⟩
theorem NxS.no {l:List ModD} {ch:List Bool} {k:Nat} {nx:Int} (h:NxS l ch (k+1) nx) (hk:pickB l ch k=false):NxS l ch k nx:=by
 have hc:∀ j,k≤j→j=k∨k+1≤j:=fun j h=>by omega
 rcases h with ⟨rfl,h⟩ | ⟨p,rfl,h1,h2,h3,h4⟩
 ·refine .inl ⟨rfl,fun j h5 h6=>?_⟩
  rcases hc j h5 with rfl | h7
  ·exact hk
  ·exact h j h7 h6
 ·refine .inr ⟨p,rfl,by omega,h2,h3,fun j h5 h6=>?_⟩
  rcases hc j h5 with rfl | h7
  ·exact hk
  ·exact h4 j h7 h6
theorem NxS.yes {l:List ModD} {ch:List Bool} {k:Nat} (hl:k<l.length) (hk:pickB l ch k=true):NxS l ch k (k:Int) :=
 .inr ⟨k,rfl,Nat.le_refl _,hl,hk,fun j h5 h6=>absurd h6 (by omega)⟩
theorem NxS.done {l:List ModD} {ch:List Bool} {nx:Int} (h:NxS l ch 0 nx):(nx=-1∧nextI l ch=none)∨∃ p:Nat,nx=(p:Int)∧p<l.length∧nextI l ch=some p:=by
 rcases h with ⟨rfl,h⟩ | ⟨p,rfl,h1,h2,h3,h4⟩
 ·exact .inl ⟨rfl,next_none (fun j hj=>h j (Nat.zero_le _) hj)⟩
 ·exact .inr ⟨p,rfl,h2,next_some h2 h3 (fun j hj=>h4 j (Nat.zero_le _) hj)⟩
theorem wpList_load_mid_g2 {P:Program} {ops:Array Oper} {rest:List Oper} {op:Oper} {a:Act} {w:World} {Q:Exit→Act→World→Prop} (hw:Region.wanted op (yielded ops a.tmps)=true) (ty:TypeId) (x:Operand) (ho:op.op=.load ty x)
 (b o:Nat) (hx:a.eval x=.pointer (some ⟨b,o,none⟩)) (cs:List Value) (d:TypeDesc) (hc:w.rangeAt b o cs)
 (hu:P.underlying ty=some d) (hd:d.isRow=true) (hi:(P.info? ty).map (·.size)=some cs.length)
 (h:wpList P ops Q rest (a.put op.dst (.agg cs.toArray)) w):wpList P ops Q (op::rest) a w :=
 wpList_step fun K hK=>by rw [if_pos hw];exact wp_load_mid ty x ho b o hx cs d hc hu hd hi (hK _ _ h)
theorem ModD.At.imps1 {w:World} {B N:Nat} {m:ModD} {cs:List Value} (h:ModD.At w B N m cs):∃ ia ic,cs[1]?=some (.slice ia m.imps.length ic)∧ImpsAt w B N m.imps ia:=by
 obtain ⟨ia,fa,ic,fc,es,h⟩:=h
 exact ⟨ia,ic,by rw [h.cs];rfl,h.atImp⟩
set_option maxRecDepth 100000 in
set_option maxHeartbeats 12800000 in
theorem order_r (l:List ModD) (a:Option Addr) (c:Nat) (w:World) (B N:Nat) (hN:N≤1048576) (hB:B≤w.heap.size) (hl:l.length≤20)
 (hA:ModsAt w B N l a):Calls Tryz.prog 14 #[.slice a l.length c] w (OrdR l w):=by
 have HA:=Hd hA
 clear hA
 have hmk:=fun u=>run_make_row' (P:=Tryz.prog) 85 4 (.bool false) 1 Tryz.underlying85 infoBool rfl .i64 .i64 l.length (by omega) (by omega) u
 have HMK:=Hd hmk
 clear hmk
 go_enter Tryz.func14,Tryz.ntmps14
 go_wp2_with fail
 go_simp
 go_loopw [4] (fun i wr=>∃ k:Nat,k≤l.length∧i=.int .i64 k∧Hid (modsE l=modsE (l.drop k))∧Hid (Below w.heap.size w wr)) (fun i _=>l.length-(intOf i).toNat)
 case atStart=>exact ⟨0,by omega,rfl,Hd rfl,Hd (Below.refl _ _)⟩
 case round =>
  obtain ⟨w1,rfl⟩:∃ w1,w1=wr:=⟨wr,rfl⟩
  obtain ⟨k,hk,rfl,HME,HBr⟩:=hrel
  by_cases hlt:k<l.length
  case pos =>
   obtain ⟨b,o,rfl,hb,hget⟩:=HA.out.get (by intro h;rw [h] at hlt;simp at hlt)
   obtain ⟨cs,g1,g2⟩:=hget k hlt
   have HG:=Hd (g1.below (HBr.out.mono hB) hb)
   have hl1:=Hd (show (Tryz.prog.info? 44).map (·.size)=some cs.length by rw [g2.len];exact sizeMOD)
   have HM1:=Hd (g2.below (HBr.out.mono hB))
   obtain ⟨z,hz⟩:∃ z,modE l[k]=z:=⟨_,rfl⟩
   have HZ:=Hd hz
   have HST:=Hd (HME.out.trans (modsE_step hlt))
   rw [hz] at HST
   clear g1 g2 hget hz
   go_wp2_with ((with_reducible show wpList _ _ _ (⟨some 22,_,_,_,_,_⟩::_) _ _);refine wpList_load_mid rfl 44 _ rfl b (o+k * 20) rfl cs _ HG.out.range Tryz.underlying44 rfl hl1.out ?_)
   refine (check_module_r l[k] _ B N cs hN (Nat.le_trans hB HBr.out.size) HM1.out).mono ?_
   rintro e w2 ⟨rfl,hb2⟩
   have HB2:=Hd (belowThen HBr.out hb2)
   clear hb2
   rw [HZ.out]
   by_cases h0:z=0
   case neg =>
    have HR:=Hd (show modsE l=z by rw [HST.out,if_pos h0])
    have HR2:=Hd (show ordR l=([],z) by rw [ordR_m (by rw [HR.out];exact h0),HR.out])
    have n1:(z==0)=false:=by simpa using h0
    have n2:(z != 0)=true:=by simpa using h0
    clear h0
    go_wp2_with fail
    go_ret2
    exact ord_err HR2.out HB2.out
   subst h0
   have HR:=Hd (show modsE l=modsE (l.drop (k+1)) by rw [HST.out,if_neg (by simp)])
   go_wp2_with fail
   go_roundw
   case rel=>exact ⟨k+1,by omega,by go_num,HR,HB2⟩
   case measure=>simp [intOf];omega
  obtain rfl:k=l.length:=by omega
  have HM0:=Hd (show modsE l=0 by rw [HME.out,modsE_end])
  clear HME
  by_cases hbig:16<l.length
  ·have HR:=Hd (ordR_s HM0.out hbig)
   go_wp2_with fail
   go_ret2
   exact ord_err HR.out HBr.out
  have HBG:=Hd hbig
  have hl16:l.length≤16:=by omega
  clear hlt
  have HA1:=Hd (ModsAt.below (HBr.out.mono hB) _ HA.out)
  go_wp2_with fail
  go_simp
  go_loopw [6] (fun i wr=>∃ k:Nat,k≤l.length∧i=.int .i64 k∧Hid (∀ j (hj:j<l.length),j<k→dupB l j l[j].name=false)∧w1=wr) (fun i _=>l.length-(intOf i).toNat)
  case atStart=>exact ⟨0,by omega,rfl,Hd (fun j _ hj=>absurd hj (by omega)),rfl⟩
  case round =>
   obtain ⟨k,hk,rfl,HND,rfl⟩:=hrel
   by_cases hlt:k<l.length
   case pos =>
    obtain ⟨b,o,rfl,hb,hget⟩:=HA1.out.get (by intro h;rw [h] at hlt;simp at hlt)
    obtain ⟨cs,g1,g2⟩:=hget k hlt
    obtain ⟨nm,hnm⟩:∃ nm,l[k].name=nm:=⟨_,rfl⟩
    have d0:w1.cell? ⟨b,o+k * 20,none⟩=some (.string nm):=g1.getA (j:=0) (v:=.string nm) (by rw [← hnm];exact g2.name0)
    obtain ⟨pr,hpr⟩:∃ pr,(nm.toList==[112,114,101,108,117,100,101])=pr:=⟨_,rfl⟩
    obtain ⟨p,hp,hpk⟩:=fnd_self hlt
    rw [hnm] at hp
    have HFI:=Hd (fndI_some hp)
    have HD:=Hd (show dupB l k l[k].name=(pr || decide ((p:Int)<k)) by rw [hnm];exact dup_cut (by rw [HFI.out]) hpr)
    clear g1 g2 hget hnm hp
    cases pr
    case true =>
     have HR:=Hd (show ordR l=([],8) by
      have h8:=nmsE_8 hlt (by rw [HD.out];rfl)
      rw [ordR_n HM0.out HBG.out (by rw [h8];decide),h8])
     go_wp2_with fail
     go_ret2
     exact ord_err HR.out HBr.out
    go_wp2_with fail
    refine (find_r l nm (some ⟨b,o,none⟩) c w1 B N hl HA1.out).mono ?_
    rintro e w2 ⟨rfl,rfl⟩
    rw [HFI.out]
    by_cases hpl:p<k
    ·have HR:=Hd (show ordR l=([],8) by
      have h8:=nmsE_8 hlt (by rw [HD.out,decide_eq_true (by omega:(p:Int)<k)];rfl)
      rw [ordR_n HM0.out HBG.out (by rw [h8];decide),h8])
     go_wp2_with fail
     go_ret2
     exact ord_err HR.out HBr.out
    have HND2:=Hd (show ∀ j (hj:j<l.length),j<k+1→dupB l j l[j].name=false from fun j hj hjk=>by
     by_cases he:j=k
     ·subst he;rw [HD.out,decide_eq_false (by omega:¬ (p:Int)<j)];rfl
     ·exact HND.out j hj (by omega))
    go_wp2_with fail
    go_roundw
    case rel=>exact ⟨k+1,by omega,by go_num,HND2,trivial⟩
    case measure=>simp [intOf];omega
   obtain rfl:k=l.length:=by omega
   have HDN:=Hd (show ∀ i (hi:i<l.length),dupB l i l[i].name=false from fun i hi=>HND.out i hi hi)
   clear HND hlt
   go_wp2_with fail
   go_simp
   go_loopw [7] (fun i wr=>∃ k:Nat,k≤l.length∧i=.int .i64 k∧Hid (∀ j (hj:j<l.length),j<k→∀ q (hq:q<l[j].imps.length),(fnd l l[j].imps[q].1).isSome=true)∧w1=wr) (fun i _=>l.length-(intOf i).toNat)
   case atStart=>exact ⟨0,by omega,rfl,Hd (fun j _ hj=>absurd hj (by omega)),rfl⟩
   case round =>
    obtain ⟨k,hk,rfl,HOK,rfl⟩:=hrel
    by_cases hlt:k<l.length
    case pos =>
     obtain ⟨b,o,rfl,hb,hget⟩:=HA1.out.get (by intro h;rw [h] at hlt;simp at hlt)
     obtain ⟨cs,g1,g2⟩:=hget k hlt
     obtain ⟨ia,ic,hc1,hia⟩:=g2.imps1
     have hil:=Nat.le_trans g2.impLen hN
     have d1:w1.cell? ⟨b,o+k * 20+1,none⟩=some (.slice ia l[k].imps.length ic):=g1.getA (j:=1) hc1
     obtain ⟨ims,hims⟩:∃ ims,l[k].imps=ims:=⟨_,rfl⟩
     have HL:=Hd hims
     have HIA:=Hd (show ImpsAt w1 B N ims ia by rw [← hims];exact hia)
     rw [hims] at d1 hil
     clear g1 g2 hget hc1 hia hims
     go_wp2_with fail
     go_simp
     go_loopw [8] (fun i wr=>∃ q:Nat,q≤ims.length∧i=.int .i64 q∧Hid (∀ j (hj:j<l[k].imps.length),j<q→(fnd l l[k].imps[j].1).isSome=true)∧w1=wr) (fun i _=>ims.length-(intOf i).toNat)
     case atStart=>exact ⟨0,by omega,rfl,Hd (fun j _ hj=>absurd hj (by omega)),rfl⟩
     case round =>
      obtain ⟨q,hq,rfl,HF,rfl⟩:=hrel
      by_cases hqt:q<ims.length
      case neg =>
       have HF2:=Hd (show ∀ j (hj:j<l.length),j<k+1→∀ q (hq:q<l[j].imps.length),(fnd l l[j].imps[q].1).isSome=true from fun j hj hjk p hp=>by
        by_cases he:j=k
        ·subst he;exact HF.out p hp (by rw [HL.out] at hp;omega)
        ·exact HOK.out j hj (by omega) p hp)
       go_wp2_with fail
       go_roundw
       case rel=>exact ⟨k+1,by omega,by go_num,HF2,trivial⟩
       case measure=>simp [intOf];omega
      obtain ⟨ib,io,rfl,hib,hig⟩:=HIA.out.get (by intro h;rw [h] at hqt;simp at hqt)
      obtain ⟨_,g1⟩:=hig q hqt
      have hqm:q<l[k].imps.length:=by rw [HL.out];exact hqt
      obtain ⟨s,hs⟩:∃ s,ims[q].1=s:=⟨_,rfl⟩
      have HS:=Hd (show l[k].imps[q].1=s by rw [← hs];simp only [HL.out])
      have d0:w1.cell? ⟨ib,io+q * 2,none⟩=some (.string s):=g1.getA (j:=0) (v:=.string s) (by rw [← hs];rfl)
      obtain ⟨f,hf⟩:∃ f,fnd l s=f:=⟨_,rfl⟩
      have HFF:=Hd hf
      clear hig g1 hs hf
      go_wp2_with fail
      refine (find_r l s (some ⟨b,o,none⟩) c w1 B N hl HA1.out).mono ?_
      rintro e w2 ⟨rfl,rfl⟩
      cases f
      case none =>
       have HFI:=Hd (fndI_none HFF.out)
       have HR:=Hd (show ordR l=([],7) by
        have h7:=nmsE_7 HDN.out hlt hqm (by rw [HS.out];exact HFF.out)
        rw [ordR_n HM0.out HBG.out (by rw [h7];decide),h7])
       rw [HFI.out]
       go_wp2_with fail
       go_ret2
       exact ord_err HR.out HBr.out
      case some p =>
       have HFI:=Hd (fndI_some HFF.out)
       have HF2:=Hd (show ∀ j (hj:j<l[k].imps.length),j<q+1→(fnd l l[k].imps[j].1).isSome=true from fun j hj hjq=>by
        by_cases he:j=q
        ·subst he;rw [HS.out,HFF.out];rfl
        ·exact HF.out j hj (by omega))
       have hpl:=(fnd_spec HFF.out).1
       rw [HFI.out]
       go_wp2_with fail
       go_roundw
       case rel=>exact ⟨q+1,by omega,by go_num,HF2,trivial⟩
       case measure=>simp [intOf];omega
    obtain rfl:k=l.length:=by omega
    have HN0:=Hd (nmsE_0 HDN.out (fun i hi q hq=>HOK.out i hi hi q hq))
    have HIV:=Hd (nmsE_inv HN0.out)
    have HINIT:=Hd (show OrdT w (w1.heap.size+1) w1.heap.size (List.replicate l.length false) [] (.slice none 0 0) (w1.alloc (.cells (madeCells #[.bool false] l.length) 4)) from
     ⟨row_made w1 l.length,World.ownsRow_nil _ _ _ _,belowThen HBr.out (belowBox w1 _),by rw [World.size_alloc];omega,by omega,HBr.out.size⟩)
    have hmk:=HMK.out w1
    clear HOK HDN hlt
    go_wp2_with fail
    clear hmk
    go_simp
    obtain ⟨i0,hi,hz0,hz1,hz2⟩:=info_parts infoInt
    have HI:=Hd hi
    have HZ0:=Hd hz0
    have HZ1:=Hd hz1
    have HZ2:=Hd hz2
    clear hi hz0 hz1 hz2
    go_loopw [10] (fun ov wr=>∃ (ch:List Bool) (out:List Nat),out.length≤l.length∧Hid (ch.length=l.length)∧Hid (restO l ch out=ordO l)∧Hid (lenOf ov=out.length)∧Hid (OrdT w (w1.heap.size+1) w1.heap.size ch out ov wr)) (fun ov _=>l.length-lenOf ov)
    case atStart=>exact ⟨_,[],by simp,Hd (by simp),Hd (rest_0 l),Hd rfl,HINIT⟩
    case round =>
     clear HINIT
     obtain ⟨w3,rfl⟩:∃ w3,w3=wr:=⟨wr,rfl⟩
     obtain ⟨ch,out,hout,HCL,HRS,HLN,HST⟩:=hrel
     obtain ⟨oa,oc,rfl⟩:=own_shape HST.out.own
     by_cases hol:out.length<l.length
     case neg =>
      have HR:=Hd (ordR_o HM0.out HBG.out HN0.out (HRS.out.symm.trans (rest_end (by omega))))
      go_wp2_with fail
      go_ret2
      exact ord_ok HR.out (ints_of_own HST.out.own) HST.out.bel
     go_wp2_with fail
     go_simp
     go_loopw [11,12] (fun nv i wr=>∃ (k:Nat) (nx:Int),k≤l.length∧i=.int .i64 ((k:Int)-1)∧nv=.int .i64 nx∧Hid (NxS l ch k nx)∧Hid (OrdT w (w1.heap.size+1) w1.heap.size ch out (.slice oa out.length oc) wr)) (fun _ i _=>(intOf i+1).toNat)
     case atStart=>exact ⟨l.length,-1,by omega,by go_num,rfl,Hd (NxS.start l ch),HST⟩
     case round =>
      clear HST
      obtain ⟨w4,rfl⟩:∃ w4,w4=wr:=⟨wr,rfl⟩
      obtain ⟨k,nx,hk,hi,rfl,HNX,HST⟩:=hrel
      cases k with
      | zero =>
        obtain rfl:=hi
        rcases HNX.out.done with ⟨rfl,hnn⟩ | ⟨p,rfl,hpl,hnn⟩
        ·have HR:=Hd (ordR_c HM0.out HBG.out HN0.out (HRS.out.symm.trans (rest_none hol hnn)))
         clear hnn
         go_wp2_with fail
         go_ret2
         exact ord_err HR.out HST.out.bel
        have HRS2:=Hd (show restO l (ch.set p true) (out++[p])=ordO l from (rest_some hol hnn).symm.trans HRS.out)
        obtain ⟨x,hx⟩:∃ x,ch[p]?=some x:=⟨_,List.getElem?_eq_getElem (by rw [HCL.out];exact hpl)⟩
        have eC:=HST.out.row.cell (bools_get hx)
        have eF:=HST.out.row.frozen p
        have HST6:=Hd (HST.out.store p)
        have HSS:=Hd (show (w4.setCell ⟨w1.heap.size,p,none⟩ (.bool true)).heap.size=w4.heap.size by simp)
        have hlo:=HST.out.loA
        clear hx hnn
        go_wp2_with (first
         | (at_builtin;refine wpList_append_own _ rfl _ _ 50 rfl (w1.heap.size+1) 3 i0 (.int .i64 0) 1 8 Tryz.underlying50 HI.out HZ0.out HZ1.out HZ2.out rfl (by decide) _ out.length (intsV out) rfl (HST6.out.own.alloc _) ⟨w4.heap.size,0,none⟩ 1 1 [.int .i64 (p:Int)] rfl rfl (by have:=cell_one_new (w4.setCell ⟨w1.heap.size,p,none⟩ (.bool true)) (.int .i64 (p:Int)) 3;rwa [HSS.out] at this) (by simp [Value.oneCell']) (by unfold maxLen;omega) (by omega) (by rw [World.size_alloc,HSS.out];omega) ?_;intro v' w7 hown' hg7 hnil7;go_frame))
        have HST7:=Hd (HST6.out.grown _ hown' hg7)
        have HL7:=Hd (show lenOf v'=(out++[p]).length by
         obtain ⟨a9,c9,rfl⟩:=own_shape HST7.out.own
         rfl)
        go_roundw
        case rel=>exact ⟨ch.set p true,out++[p],by rw [List.length_append];simp;omega,Hd (by rw [List.length_set];exact HCL.out),HRS2,HL7,HST7⟩
        case measure=>rw [HL7.out];simp [lenOf];omega
      | succ k =>
        rw [show ((k+1:Nat):Int)-1=(k:Int) by omega] at hi
        subst hi
        have hlt:k<l.length:=by omega
        obtain ⟨x,hx⟩:∃ x,ch[k]?=some x:=⟨_,List.getElem?_eq_getElem (by rw [HCL.out];exact hlt)⟩
        have HX:=Hd hx
        have eC:=HST.out.row.cell (bools_get hx)
        clear hx
        cases x
        case true =>
         have HNX2:=Hd (HNX.out.no (pick_ch (getD_true HX.out)))
         go_wp2_with fail
         go_roundw
         case rel=>exact ⟨k,nx,by omega,by go_num,rfl,HNX2,HST⟩
         case measure=>simp [intOf]
        have HAW:=Hd (ModsAt.below (HST.out.bel.mono hB) _ HA.out)
        have hBw:=Hd (Nat.le_trans hB HST.out.bel.size)
        obtain ⟨b,o,rfl,hb,hget⟩:=HAW.out.get (by intro h;rw [h] at hlt;simp at hlt)
        obtain ⟨cs,g1,g2⟩:=hget k hlt
        have HG:=Hd g1
        have HM:=Hd g2
        have hl1:=Hd (show (Tryz.prog.info? 44).map (·.size)=some cs.length by rw [g2.len];exact sizeMOD)
        obtain ⟨rb,hrb⟩:∃ rb,readyB l ch l[k]=rb:=⟨_,rfl⟩
        have HRB:=Hd hrb
        have HRW:=Hd HST.out.row
        clear g1 g2 hget hrb
        go_wp2_with ((with_reducible show wpList _ _ _ (⟨some 106,_,_,_,_,_⟩::_) _ _);refine wpList_load_mid_g2 ?hw 44 _ rfl b (o+k * 20) rfl cs _ HG.out.range Tryz.underlying44 rfl hl1.out ?_;case hw=>kernel_rfl)
        refine (ready_r l l[k] ch w1.heap.size (some ⟨b,o,none⟩) c w4 B N cs hN hl hBw.out HCL.out (HIV.out k hlt) HRW.out HAW.out HM.out).mono ?_
        rw [HRB.out]
        rintro e w5 ⟨rfl,hb5⟩
        have HST5:=Hd (HST.out.then hb5)
        clear hb5
        cases rb
        case false =>
         have HNX2:=Hd (HNX.out.no (pick_no hlt HRB.out))
         go_wp2_with fail
         go_roundw
         case rel=>exact ⟨k,nx,by omega,by go_num,rfl,HNX2,HST5⟩
         case measure=>simp [intOf]
        have HNX2:=Hd (NxS.yes hlt (pick_yes hlt (getD_true HX.out) HRB.out))
        go_wp2_with fail
        go_roundw
        case rel=>exact ⟨k,k,by omega,by go_num,rfl,HNX2,HST5⟩
        case measure=>simp [intOf]
end Go.Proofs.YtiefeajappjnbaaGreatDoor
