/- qparse.joined: the sources of arguments that are not absent, with "; " between. -/
import Derived.Test.YtiefeajappjnbaaGreatDoorGA
import Derived.Test.YtiefeajappjnbaaGreatDoorMB
import Derived.Test.YtiefeajappjnbaaGreatDoorMA
import Derived.Test.YtiefeajappjnbaaGreatDoorGI
import Derived.Test.YtiefeajappjnbaaGreatDoorShelf
import Derived.Lib.Join
import Derived.Test.YtiefeajappjnbaaGreatDoorMC
namespace Go.Proofs.YtiefeajappjnbaaGreatDoor
open Go.RowKit
theorem infoStr:(Tryz.prog.info? 9).map (fun i=>(i.zero,i.size,i.bytes))=some (some (.string ⟨#[]⟩),1,16):=by kernel_rfl
def prsL (f:ExprD→ByteArray) (l:List ExprD):List ByteArray:=(l.filter fun a=>decide (a.op≠30)).map f
theorem prsL_step (f:ExprD→ByteArray) (l:List ExprD) {k:Nat} (h:k<l.length):prsL f (l.take (k+1))=prsL f (l.take k)++(if l[k].op=30 then [] else [f l[k]]):=by
 unfold prsL
 rw [← List.take_append_getElem h,List.filter_append,List.map_append]
 congr 1
 by_cases hv:l[k].op=30<;>simp [hv]
theorem prsL_len (f:ExprD→ByteArray) (l:List ExprD):(prsL f l).length≤l.length:=by
 unfold prsL
 rw [List.length_map]
 exact List.length_filter_le _ _
theorem ba_ext {a b:ByteArray} (h:a.data.toList=b.data.toList):a=b:=by
 have:a.data=b.data:=Array.toList_inj.1 h
 cases a;cases b
 simp_all
theorem join_S (sep:ByteArray):∀ xs:List ByteArray,(⟨(Lib.join (xs.map (·.data.toList)) sep.data.toList).toArray⟩:ByteArray)=joinS sep xs
 | []=>rfl
 | [a]=>ba_ext (by simp [Lib.join_one,joinS])
 | a::b::r=>by
   have h:=congrArg (fun z:ByteArray=>z.data.toList) (join_S sep (b::r))
   refine ba_ext ?_
   rw [joinS]
   simp only [ByteArray.data_append,Array.toList_append] at h ⊢
   rw [← h]
   simp [Lib.join,List.intercalate]
theorem join_fit (f:ExprD→ByteArray) (l:List ExprD) (hk:∀ i (h:i<l.length),l[i].op≠30→(f l[i]).size≤274877906944) (hz:l.length≤8):(joinS ⟨#[59,32]⟩ (prsL f l)).size≤2199023255600:=by
 have h1:=joinS_size ⟨#[59,32]⟩ (prsL f l)
 have h2:=sum_const (fun s:ByteArray=>s.size+(⟨#[59,32]⟩:ByteArray).size) 274877906946 (prsL f l) (fun s hs=>by
  unfold prsL at hs
  obtain ⟨a,ha,rfl⟩:=List.mem_map.1 hs
  obtain ⟨ha1,ha2⟩:=List.mem_filter.1 ha
  obtain ⟨i,hi,rfl⟩:=List.getElem_of_mem ha1
  have:=hk i hi (by simpa using ha2)
  simp only [szl,List.size_toArray,List.length_cons,List.length_nil]
  omega)
 have h3:=prsL_len f l
 have h4:(prsL f l).length * 274877906946≤8 * 274877906946:=Nat.mul_le_mul_right _ (by omega)
 omega
theorem own_then' {w w':World} {lo sz n:Nat} {t:TypeId} {v:Value} {xs:List Value} (h:w.ownsRow lo t sz v n xs) (hb:Below w.heap.size w w'):w'.ownsRow lo t sz v n xs:=by
 refine ⟨h.1,?_⟩
 rcases h.2 with hv | ⟨g,cap,cur,hv,hl,hg,hr⟩
 ·exact .inl hv
 ·exact .inr ⟨g,cap,cur,hv,hl,(hb.block g (Array.getElem?_eq_some_iff.1 hg).1).trans hg,hr⟩
set_option maxRecDepth 100000 in
set_option maxHeartbeats 6400000 in
theorem joined_p (f:ExprD→ByteArray) (l:List ExprD) (hk:∀ i (h:i<l.length),l[i].op≠30→KidP f l[i]) (hz:l.length≤8) (a:Option Addr) (c:Nat) (w:World) (B N:Nat) (hN:N≤1048576) (hB:B≤w.heap.size) (hE:Env w) (hA:ExprsAt w B N l a) :
 Calls Tryz.prog 59 #[.slice a l.length c] w (StrB (joinS ⟨#[59,32]⟩ (prsL f l)) w):=by
 obtain ⟨i0,hi,hz0,hz1,hz2⟩:=info_parts infoStr
 have HI:=Hd hi
 have HZ0:=Hd hz0
 have HZ1:=Hd hz1
 have HZ2:=Hd hz2
 have HK:=Hd hk
 have HE:=Hd hE
 have HA:=Hd hA
 have HFIT:=Hd (join_fit f l (fun i h h3=>(hk i h h3).size) hz)
 clear hi hz0 hz1 hz2 hk hE hA
 go_enter Tryz.func59,Tryz.ntmps59
 go_wp2_with fail
 go_simp
 go_loopw [3,8] (fun v i wr=>∃ k:Nat,k≤l.length∧i=.int .i64 k∧Hid (wr.ownsRow w.heap.size 9 1 v (prsL f (l.take k)).length ((prsL f (l.take k)).map .string))∧Hid (Below w.heap.size w wr)) (fun _ i _=>l.length-(intOf i).toNat)
 case atStart=>exact ⟨0,by omega,rfl,Hd (World.ownsRow_nil _ _ _ _),Hd (Below.refl _ _)⟩
 case round =>
  obtain ⟨k,hkl,rfl,HO,HBr⟩:=hrel
  by_cases hlt:k<l.length
  case neg =>
   obtain rfl:k=l.length:=by omega
   have htk:l.take l.length=l:=List.take_length
   rw [htk] at HO
   have hln:=prsL_len f l
   rcases HO.out.2 with ⟨rfl,h0⟩ | ⟨g,cap,cur,rfl,_,hb,h1,h2,_,_⟩
   ·have HR:=Hd (show joinS ⟨#[59,32]⟩ (prsL f l)=⟨#[]⟩ by rw [List.length_eq_zero_iff.1 h0];rfl)
    clear h0 htk
    go_wp2_with fail
    refine (Tryz.strings_Join_none none 0 _ _).mono ?_
    rintro e w2 ⟨rfl,rfl⟩
    go_wp2_with fail
    go_ret
    exact ⟨by rw [HR.out];rfl,HBr.out⟩
   ·have HGL:=Hd (Array.getElem?_eq_some_iff.1 hb).1
    have HCE:=Hd (show ∀ (j:Nat) x,(prsL f l)[j]?=some x→wr.cell? ⟨g,0+j,none⟩=some (.string x) from fun j x hx=>by
     have h:=HO.out.cells (g:=g) rfl j (.string x) (by rw [List.getElem?_map,hx];rfl)
     rwa [addr_add'] at h)
    have HC1:=Hd h1
    have HJ:=Hd (join_S ⟨#[59,32]⟩ (prsL f l))
    clear hb h1 h2 htk
    go_wp2_with fail
    refine (Tryz.strings_Join g 0 cap (prsL f l) ⟨#[59,32]⟩ wr HCE.out HGL.out (by omega) HC1.out (by
     have h:=congrArg ByteArray.size HJ.out
     have h2:=HFIT.out
     rw [← h] at h2
     have h3:(⟨(Lib.join ((prsL f l).map (·.data.toList)) (⟨#[59,32]⟩:ByteArray).data.toList).toArray⟩:ByteArray).size=(Lib.join ((prsL f l).map (·.data.toList)) (⟨#[59,32]⟩:ByteArray).data.toList).length:=by simp [ByteArray.size]
     rw [h3] at h2
     omega)).mono ?_
    rw [HJ.out]
    rintro e w2 ⟨rfl,hb2⟩
    have H2:=Hd (belowThen HBr.out hb2)
    clear hb2
    go_wp2_with fail
    go_ret
    exact ⟨rfl,H2.out⟩
  obtain ⟨b,o,rfl,hb,hget⟩:=HA.out.get (by intro h;rw [h] at hlt;simp at hlt)
  obtain ⟨as0,g1,g2⟩:=hget k hlt
  obtain ⟨_,_,_,_,_,gh⟩:=g2.has
  have hl1:=Hd (show (Tryz.prog.info? 34).map (·.size)=some as0.length by rw [g2.len];kernel_rfl)
  have hl2:=Hd (show (Tryz.prog.info? 34).map (·.size)=some as0.toArray.size by rw [List.size_toArray,g2.len];kernel_rfl)
  have h17:=Hd (show 17=as0.toArray.size by rw [List.size_toArray,g2.len])
  have hone:=Hd (show as0.toArray.all (·.oneCell')=true from Go.all_oneCell_toArray g2.one)
  have HR1:=Hd (show ∀ u,Below w.heap.size w u→CellsAt u b (o+k * 17) as0 from fun u hu=>g1.below (hu.mono hB) hb)
  have HQ1:=Hd (show ∀ u,Below w.heap.size w u→ExprD.At u B N l[k] as0 from fun u hu=>g2.below (hu.mono hB))
  have HSTEP:=Hd (prsL_step f l hlt)
  obtain ⟨p,hp⟩:∃ p,l[k].op=p:=⟨_,rfl⟩
  have HP:=Hd hp
  have HC0:=Hd (show as0[0]?=some (.int .i64 p) by rw [← hp];exact gh.op)
  have HB1:=Hd (show Below w.heap.size w (wr.alloc (.cells as0.toArray 34)) from belowThen HBr.out (belowBox wr _))
  have HO1:=Hd (HO.out.alloc (.cells as0.toArray 34))
  have HBX:=Hd (box_at wr as0 34)
  have e0:=HBX.out.get0 HC0.out
  clear g1 g2 gh hget hp
  by_cases h30:p=30
  ·subst h30
   have HS2:=Hd (show prsL f (l.take (k+1))=prsL f (l.take k) by rw [HSTEP.out,if_pos HP.out,List.append_nil])
   go_wp2_with (first
    | ((with_reducible show wpList _ _ _ (⟨some 11,_,_,_,_,_⟩::_) _ _);refine wpList_load_mid rfl 34 _ rfl b (o+k * 17) rfl as0 _ (HR1.out _ HBr.out).range Tryz.underlying34 rfl hl1.out ?_)
    | ((with_reducible show wpList _ _ _ (⟨none,.store 34 (.tmp 5) (.tmp 11),_,_,_,_⟩::_) _ _);refine wpList_store_new rfl 34 _ _ rfl _ as0.toArray rfl rfl hl2.out h17.out hone.out ?_))
   go_roundw
   case rel=>exact ⟨k+1,by omega,by go_num,by rw [HS2.out];exact HO1,HB1⟩
   case measure=>simp [intOf];omega
  ·have n1:(p != 30)=true:=by simpa using h30
   have n2:(p==30)=false:=by simpa using h30
   have HS2:=Hd (show prsL f (l.take (k+1))=prsL f (l.take k)++[f l[k]] by rw [HSTEP.out,if_neg (by rw [HP.out];exact h30)])
   have HKK:=Hd (HK.out k hlt (by rw [HP.out];exact h30))
   have hlen:=Hd (show (prsL f (l.take k)).length≤8 from Nat.le_trans (prsL_len f _) (by rw [List.length_take];omega))
   clear h30
   go_wp2_with (first
    | ((with_reducible show wpList _ _ _ (⟨some 11,_,_,_,_,_⟩::_) _ _);refine wpList_load_mid rfl 34 _ rfl b (o+k * 17) rfl as0 _ (HR1.out _ HBr.out).range Tryz.underlying34 rfl hl1.out ?_)
    | ((with_reducible show wpList _ _ _ (⟨none,.store 34 (.tmp 5) (.tmp 11),_,_,_,_⟩::_) _ _);refine wpList_store_new rfl 34 _ _ rfl _ as0.toArray rfl rfl hl2.out h17.out hone.out ?_)
    | ((with_reducible show wpList _ _ _ (⟨some 16,_,_,_,_,_⟩::_) _ _);refine wpList_load_mid rfl 34 _ rfl wr.heap.size 0 rfl as0 _ HBX.out.range Tryz.underlying34 rfl hl1.out ?_))
   refine (arg_p f _ HKK.out 0 _ B N as0 hN (Nat.le_trans hB HB1.out.size) (HE.out.then HB1.out) (HQ1.out _ HB1.out)).mono ?_
   rw [atS_0]
   rintro e u3 ⟨rfl,hb3⟩
   have HB3:=Hd (belowThen HB1.out hb3)
   have HO3:=Hd (own_then' HO1.out hb3)
   clear hb3 e0
   go_wp2_with (first
    | (at_builtin;refine wpList_append_own _ rfl _ _ 86 rfl w.heap.size 9 i0 (.string ⟨#[]⟩) 1 16 Tryz.underlying86 HI.out HZ0.out HZ1.out HZ2.out rfl (by decide) _ _ _ rfl (HO3.out.alloc _) ⟨u3.heap.size,0,none⟩ 1 1 [.string (f l[k])] rfl rfl (cell_one_new _ _ _) (by simp [Value.oneCell']) (by have:=hlen.out;unfold maxLen;omega) (by have:=hlen.out;omega) (by have:=HB3.out.size;rw [World.size_alloc];omega) ?_;intro v' w5 hown' hg5 hnil5;go_frame))
   have HB5:=Hd (show Below w.heap.size w w5 from Below.grown (HB3.out.alloc HB3.out.size _) hg5 (by have:=HB3.out.size;rw [World.size_alloc];omega) (fun j hj=>(HO3.out.lt j hj).1))
   go_roundw
   case rel=>exact ⟨k+1,by omega,by go_num,Hd (by rw [HS2.out,List.length_append,List.map_append];simpa using hown'),HB5⟩
   case measure=>simp [intOf];omega
end Go.Proofs.YtiefeajappjnbaaGreatDoor

/- qparse.define: the source of a definition. -/
namespace Go.Proofs.YtiefeajappjnbaaGreatDoor
open Go.RowKit
theorem CellsAt.partU {u:World} {b:Nat} {xs vs:List Value} {o n:Nat} (h:CellsAt u b 0 xs) (hv:(xs.drop o).take n=vs):u.rangeAt b o vs:=fun j v hj=>by
 subst hv
 rw [List.getElem?_take] at hj
 split at hj
 ·rw [List.getElem?_drop] at hj
  have:=h.range (o+j) v hj
  rwa [Nat.zero_add] at this
 ·cases hj
theorem pars_fit (l:List ParD) (N:Nat) (hN:N≤1048576) (hs:∀ p∈l,p.name.size≤N) (hz:l.length≤8):(joinS ⟨#[59,32]⟩ (l.map parS)).size≤8388640:=by
 have h1:=joinS_size ⟨#[59,32]⟩ (l.map parS)
 have h2:=sum_const (fun s:ByteArray=>s.size+(⟨#[59,32]⟩:ByteArray).size) (N+3) (l.map parS) (fun s hs'=>by
  obtain ⟨p,hp',rfl⟩:=List.mem_map.1 hs'
  have:=parS_size p
  have:=hs p hp'
  simp only [szl,List.size_toArray,List.length_cons,List.length_nil]
  omega)
 rw [List.length_map] at h2
 have h4:l.length * (N+3)≤8 * (N+3):=Nat.mul_le_mul_right _ hz
 omega
set_option maxRecDepth 100000 in
set_option maxHeartbeats 6400000 in
theorem define_p (f:ExprD→ByteArray) (y:FuncD) (hk:KidP f y.body) (hz:y.params.length≤8) (w:World) (B N:Nat) (cs:List Value) (hN:N≤1048576) (hB:B≤w.heap.size) (hE:Env w) (hy:FuncD.At w B N y cs) :
 Calls Tryz.prog 26 #[.agg cs.toArray] w (StrB (defS f y) w):=by
 obtain ⟨i0,hi,hz0,hz1,hz2⟩:=info_parts infoStr
 have HI:=Hd hi
 have HZ0:=Hd hz0
 have HZ1:=Hd hz1
 have HZ2:=Hd hz2
 have HK:=Hd hk
 have HE:=Hd hE
 obtain ⟨pa,pc,es,hh⟩:=hy.has
 have HPA:=Hd hh.atPar
 have HBD:=Hd hh.atBody
 have hes:(cs.drop 2).take 17=es:=by rw [hh.body];exact List.take_of_length_le (by rw [hh.atBody.len];exact Nat.le_refl _)
 have HES:=Hd hes
 have hle:=Hd (show (Tryz.prog.info? 34).map (·.size)=some es.length by rw [hh.atBody.len];kernel_rfl)
 obtain ⟨nm,hnm⟩:∃ nm,y.name=nm:=⟨_,rfl⟩
 have HNM:=Hd hnm
 have HC0:=Hd (show cs[0]?=some (.string nm) by rw [← hnm];exact hh.name)
 have HC1:=Hd hh.params
 have znm:nm.size≤1048576:=by rw [← hnm];exact Nat.le_trans hh.hn hN
 have HPS:=Hd (show ∀ p∈y.params,p.name.size≤N from fun p hp=>by
  obtain ⟨j,hj,rfl⟩:=List.getElem_of_mem hp
  obtain ⟨_,_,_,_,hg⟩:=hh.atPar.get (by intro h;simp [h] at hj)
  exact (hg j hj).1)
 have HFIT:=Hd (pars_fit y.params N hN HPS.out hz)
 have zb:(f y.body).size≤274877906944:=hk.size
 obtain ⟨sb,hsb⟩:∃ sb,f y.body=sb:=⟨_,rfl⟩
 have HSB:=Hd hsb
 rw [hsb] at zb
 have R0:=Hd (RowT.new w 72 cs)
 have H0:=Hd (belowBox w (.cells cs.toArray 72))
 have e0:=R0.out.cell HC0.out
 have e1:=R0.out.cell HC1.out
 have sc1:(⟨#[100,101,102,32]⟩:ByteArray).size+nm.size≤9223372036854775807:=by simp only [szl,List.size_toArray,List.length_cons,List.length_nil];omega
 clear hi hz0 hz1 hz2 hk hE hy hh hes hnm hsb
 go_enter Tryz.func26,Tryz.ntmps26
 go_wp2_with fail
 go_simp
 go_loopw [4,13] (fun v i wr=>∃ k:Nat,k≤y.params.length∧i=.int .i64 k∧Hid (wr.ownsRow (w.heap.size+1) 9 1 v ((y.params.take k).map parS).length (((y.params.take k).map parS).map .string))∧Hid (RowT 72 wr w.heap.size cs)∧Hid (Below w.heap.size w wr)∧Hid (w.heap.size+1≤wr.heap.size)) (fun _ i _=>y.params.length-(intOf i).toNat)
 case atStart=>exact ⟨0,by omega,rfl,Hd (World.ownsRow_nil _ _ _ _),R0,H0,Hd (by rw [World.size_alloc];omega)⟩
 case round =>
  clear e0 e1 R0
  obtain ⟨k,hkl,rfl,HO,HR,HBr,HSZ⟩:=hrel
  have e0:=HR.out.cell HC0.out
  have e1:=HR.out.cell HC1.out
  by_cases hlt:k<y.params.length
  case neg =>
   obtain rfl:k=y.params.length:=by omega
   have htk:y.params.take y.params.length=y.params:=List.take_length
   rw [htk] at HO
   obtain ⟨ps,hps⟩:∃ ps,y.params.map parS=ps:=⟨_,rfl⟩
   have HPD:=Hd hps
   rw [hps] at HO
   have hlm:ps.length=y.params.length:=by rw [← hps];exact List.length_map _
   have HLM:=Hd hlm
   obtain ⟨jn,hjn⟩:∃ jn,joinS ⟨#[59,32]⟩ ps=jn:=⟨_,rfl⟩
   have HJN:=Hd hjn
   have zj:jn.size≤8388640:=by rw [← hjn,← hps];exact HFIT.out
   clear htk hjn hps
   rcases HO.out.2 with ⟨rfl,h0⟩ | ⟨g,cap,cur,rfl,_,hb,h1,h2,_,_⟩
   ·have HP0:=Hd (show y.params=[] from List.length_eq_zero_iff.1 (by omega))
    have HRS:=Hd (show defS f y=⟨#[100,101,102,32]⟩++nm++⟨#[58,32]⟩++sb++⟨#[59]⟩ by unfold defS headS;rw [if_pos HP0.out,HNM.out,HSB.out])
    have sc2:((⟨#[100,101,102,32]⟩:ByteArray)++nm).size+(⟨#[58,32]⟩:ByteArray).size≤9223372036854775807:=by (repeat rw [ByteArray.size_append]);simp only [szl,List.size_toArray,List.length_cons,List.length_nil];omega
    have sc3:((⟨#[100,101,102,32]⟩:ByteArray)++nm++⟨#[58,32]⟩).size+sb.size≤9223372036854775807:=by (repeat rw [ByteArray.size_append]);simp only [szl,List.size_toArray,List.length_cons,List.length_nil];omega
    have sc4:((⟨#[100,101,102,32]⟩:ByteArray)++nm++⟨#[58,32]⟩++sb).size+(⟨#[59]⟩:ByteArray).size≤9223372036854775807:=by (repeat rw [ByteArray.size_append]);simp only [szl,List.size_toArray,List.length_cons,List.length_nil];omega
    clear h0 hlm
    go_wp2_with ((with_reducible show wpList _ _ _ (⟨some 43,_,_,_,_,_⟩::_) _ _);refine wpList_load_mid rfl 34 _ rfl w.heap.size 2 rfl es _ (HR.out.cells.partU HES.out) Tryz.underlying34 rfl hle.out ?_)
    refine (arg_p f _ HK.out 0 _ B N es hN (Nat.le_trans hB HBr.out.size) (HE.out.then HBr.out) (HBD.out.below (HBr.out.mono hB))).mono ?_
    rw [atS_0,HSB.out]
    rintro e w2 ⟨rfl,hb2⟩
    have H2:=Hd (belowThen HBr.out hb2)
    clear hb2
    go_wp2_with fail
    go_ret
    exact ⟨by rw [HRS.out];rfl,H2.out⟩
   ·by_cases hp0:y.params.length=0
    ·have HP0:=Hd (show y.params=[] from List.length_eq_zero_iff.1 hp0)
     have HRS:=Hd (show defS f y=⟨#[100,101,102,32]⟩++nm++⟨#[58,32]⟩++sb++⟨#[59]⟩ by unfold defS headS;rw [if_pos HP0.out,HNM.out,HSB.out])
     have sc2:((⟨#[100,101,102,32]⟩:ByteArray)++nm).size+(⟨#[58,32]⟩:ByteArray).size≤9223372036854775807:=by (repeat rw [ByteArray.size_append]);simp only [szl,List.size_toArray,List.length_cons,List.length_nil];omega
     have sc3:((⟨#[100,101,102,32]⟩:ByteArray)++nm++⟨#[58,32]⟩).size+sb.size≤9223372036854775807:=by (repeat rw [ByteArray.size_append]);simp only [szl,List.size_toArray,List.length_cons,List.length_nil];omega
     have sc4:((⟨#[100,101,102,32]⟩:ByteArray)++nm++⟨#[58,32]⟩++sb).size+(⟨#[59]⟩:ByteArray).size≤9223372036854775807:=by (repeat rw [ByteArray.size_append]);simp only [szl,List.size_toArray,List.length_cons,List.length_nil];omega
     rw [hlm,hp0]
     clear hb h1 h2 hlm hp0
     go_wp2_with ((with_reducible show wpList _ _ _ (⟨some 43,_,_,_,_,_⟩::_) _ _);refine wpList_load_mid rfl 34 _ rfl w.heap.size 2 rfl es _ (HR.out.cells.partU HES.out) Tryz.underlying34 rfl hle.out ?_)
     refine (arg_p f _ HK.out 0 _ B N es hN (Nat.le_trans hB HBr.out.size) (HE.out.then HBr.out) (HBD.out.below (HBr.out.mono hB))).mono ?_
     rw [atS_0,HSB.out]
     rintro e w2 ⟨rfl,hb2⟩
     have H2:=Hd (belowThen HBr.out hb2)
     clear hb2
     go_wp2_with fail
     go_ret
     exact ⟨by rw [HRS.out];rfl,H2.out⟩
    have HRS:=Hd (show defS f y=⟨#[100,101,102,32]⟩++nm++(⟨#[40]⟩++jn++⟨#[41]⟩)++⟨#[58,32]⟩++sb++⟨#[59]⟩ by unfold defS headS;rw [if_neg (by intro h;rw [h] at hp0;exact hp0 rfl),HNM.out,HSB.out,HPD.out,HJN.out])
    have HGL:=Hd (Array.getElem?_eq_some_iff.1 hb).1
    have HCE:=Hd (show ∀ (j:Nat) x,ps[j]?=some x→wr.cell? ⟨g,0+j,none⟩=some (.string x) from fun j x hx=>by
     have h:=HO.out.cells (g:=g) rfl j (.string x) (by rw [List.getElem?_map,hx];rfl)
     rwa [addr_add'] at h)
    have HC9:=Hd h1
    have HJ:=Hd (join_S ⟨#[59,32]⟩ ps)
    have hpos:(0:Int)<(ps.length:Int):=by omega
    have sa1:(⟨#[40]⟩:ByteArray).size+jn.size≤9223372036854775807:=by simp only [szl,List.size_toArray,List.length_cons,List.length_nil];omega
    have sa2:((⟨#[40]⟩:ByteArray)++jn).size+(⟨#[41]⟩:ByteArray).size≤9223372036854775807:=by (repeat rw [ByteArray.size_append]);simp only [szl,List.size_toArray,List.length_cons,List.length_nil];omega
    have sa3:((⟨#[100,101,102,32]⟩:ByteArray)++nm).size+((⟨#[40]⟩:ByteArray)++jn++⟨#[41]⟩).size≤9223372036854775807:=by (repeat rw [ByteArray.size_append]);simp only [szl,List.size_toArray,List.length_cons,List.length_nil];omega
    have sc2:((⟨#[100,101,102,32]⟩:ByteArray)++nm++(⟨#[40]⟩++jn++⟨#[41]⟩)).size+(⟨#[58,32]⟩:ByteArray).size≤9223372036854775807:=by (repeat rw [ByteArray.size_append]);simp only [szl,List.size_toArray,List.length_cons,List.length_nil];omega
    have sc3:((⟨#[100,101,102,32]⟩:ByteArray)++nm++(⟨#[40]⟩++jn++⟨#[41]⟩)++⟨#[58,32]⟩).size+sb.size≤9223372036854775807:=by (repeat rw [ByteArray.size_append]);simp only [szl,List.size_toArray,List.length_cons,List.length_nil];omega
    have sc4:((⟨#[100,101,102,32]⟩:ByteArray)++nm++(⟨#[40]⟩++jn++⟨#[41]⟩)++⟨#[58,32]⟩++sb).size+(⟨#[59]⟩:ByteArray).size≤9223372036854775807:=by (repeat rw [ByteArray.size_append]);simp only [szl,List.size_toArray,List.length_cons,List.length_nil];omega
    clear hb h1 h2 hlm hp0
    go_wp2_with fail
    refine (Tryz.strings_Join g 0 cap ps ⟨#[59,32]⟩ wr HCE.out HGL.out (by have:=HLM.out;omega) HC9.out (by
     have h:=congrArg ByteArray.size HJ.out
     have h2:=HFIT.out
     rw [HPD.out,← h] at h2
     have h3:(⟨(Lib.join (ps.map (·.data.toList)) (⟨#[59,32]⟩:ByteArray).data.toList).toArray⟩:ByteArray).size=(Lib.join (ps.map (·.data.toList)) (⟨#[59,32]⟩:ByteArray).data.toList).length:=by simp [ByteArray.size]
     rw [h3] at h2
     omega)).mono ?_
    rw [HJ.out,HJN.out]
    rintro e w5 ⟨rfl,hb5⟩
    have HR5:=Hd (HR.out.then hb5)
    have H5:=Hd (belowThen HBr.out hb5)
    clear hb5
    go_wp2_with ((with_reducible show wpList _ _ _ (⟨some 43,_,_,_,_,_⟩::_) _ _);refine wpList_load_mid rfl 34 _ rfl w.heap.size 2 rfl es _ (HR5.out.cells.partU HES.out) Tryz.underlying34 rfl hle.out ?_)
    refine (arg_p f _ HK.out 0 _ B N es hN (Nat.le_trans hB H5.out.size) (HE.out.then H5.out) (HBD.out.below (H5.out.mono hB))).mono ?_
    rw [atS_0,HSB.out]
    rintro e w6 ⟨rfl,hb6⟩
    have H6:=Hd (belowThen H5.out hb6)
    clear hb6
    go_wp2_with fail
    go_ret
    exact ⟨by rw [HRS.out];rfl,H6.out⟩
  obtain ⟨b,o,rfl,hb,hget⟩:=HPA.out.get (by intro h;rw [h] at hlt;simp at hlt)
  obtain ⟨hpn,g1⟩:=hget k hlt
  have HSTEP:=Hd (show (y.params.take (k+1)).map parS=(y.params.take k).map parS++[parS y.params[k]] by rw [← List.take_append_getElem hlt,List.map_append];rfl)
  have hlen:=Hd (show ((y.params.take k).map parS).length≤8 by rw [List.length_map,List.length_take];omega)
  obtain ⟨p,hp⟩:∃ p,y.params[k]=p:=⟨_,rfl⟩
  rw [hp] at g1 hpn HSTEP
  have HR1:=Hd (show ∀ u,Below w.heap.size w u→CellsAt u b (o+k * 2) p.cells from fun u hu=>g1.below (hu.mono hB) hb)
  have hl1:=Hd (show (Tryz.prog.info? 120).map (·.size)=some p.cells.length by kernel_rfl)
  have hl2:=Hd (show (Tryz.prog.info? 120).map (·.size)=some p.cells.toArray.size by kernel_rfl)
  have h2:=Hd (show 2=p.cells.toArray.size by rfl)
  have hone:=Hd (show p.cells.toArray.all (·.oneCell')=true from Go.all_oneCell_toArray (by intro u hu;simp [ParD.cells] at hu;rcases hu with rfl | rfl<;>rfl))
  have HB1:=Hd (show Below w.heap.size w (wr.alloc (.cells p.cells.toArray 120)) from belowThen HBr.out (belowBox wr _))
  have HO1:=Hd (HO.out.alloc (.cells p.cells.toArray 120))
  have HR2:=Hd (HR.out.alloc (.cells p.cells.toArray 120))
  have HBX:=Hd (RowT.new wr 120 p.cells)
  have HS1:=Hd (World.size_alloc wr (.cells p.cells.toArray 120))
  have d0:=HBX.out.cell (j:=0) (v:=.string p.name) rfl
  have d1:=HBX.out.cell (j:=1) (v:=.bool p.value) rfl
  have zp:p.name.size≤1048576:=Nat.le_trans hpn hN
  have sc9:(⟨#[36]⟩:ByteArray).size+p.name.size≤9223372036854775807:=by simp only [szl,List.size_toArray,List.length_cons,List.length_nil];omega
  clear g1 hget hp hpn
  cases hv:p.value
  all_goals
   have HPV:=Hd hv
   rw [hv] at d1
   first
    | have HPS2:=Hd (show parS p=⟨#[36]⟩++p.name by unfold parS;rw [hv];rfl)
    | have HPS2:=Hd (show parS p=p.name by unfold parS;rw [hv];rfl)
   clear hv
   go_wp2_with (first
    | ((with_reducible show wpList _ _ _ (⟨some 16,_,_,_,_,_⟩::_) _ _);refine wpList_load_mid rfl 120 _ rfl b (o+k * 2) rfl p.cells _ (HR1.out _ HBr.out).range Tryz.underlying120 rfl hl1.out ?_)
    | ((with_reducible show wpList _ _ _ (⟨none,.store 120 (.tmp 6) (.tmp 16),_,_,_,_⟩::_) _ _);refine wpList_store_new rfl 120 _ _ rfl _ p.cells.toArray rfl rfl hl2.out h2.out hone.out ?_)
    | (at_builtin;refine wpList_append_own _ rfl _ _ 86 rfl (w.heap.size+1) 9 i0 (.string ⟨#[]⟩) 1 16 Tryz.underlying86 HI.out HZ0.out HZ1.out HZ2.out rfl (by decide) _ _ _ rfl (HO1.out.alloc _) ⟨(wr.alloc (.cells p.cells.toArray 120)).heap.size,0,none⟩ 1 1 [.string (parS p)] (by rw [HS1.out];rfl) rfl (by rw [HPS2.out];exact cell_one_new _ _ _) (by simp [Value.oneCell']) (by have:=hlen.out;unfold maxLen;omega) (by have:=hlen.out;omega) (by have:=HSZ.out;rw [World.size_alloc,HS1.out];omega) ?_;intro v' w5 hown' hg5 hnil5;go_frame))
   have HB5:=Hd (show Below w.heap.size w w5 from Below.grown (HB1.out.alloc HB1.out.size _) hg5 (by have:=HB1.out.size;rw [World.size_alloc];omega) (fun j hj=>by have:=(HO1.out.lt j hj).1;omega))
   have HR5:=Hd (show RowT 72 w5 w.heap.size cs from (hg5.block w.heap.size ((HR2.out.alloc _).lt) (fun e=>by have:=(HO1.out.lt _ e.symm).1;omega)).trans (HR2.out.alloc _))
   have HSZ5:=Hd (show w.heap.size+1≤w5.heap.size by have h1:=hg5.size;have h2:=HSZ.out;rw [World.size_alloc,HS1.out] at h1;omega)
   go_roundw
   case rel=>exact ⟨k+1,by omega,by go_num,Hd (by rw [HSTEP.out,List.length_append,List.map_append];simpa using hown'),HR5,HB5,HSZ5⟩
   case measure=>simp [intOf];omega
end Go.Proofs.YtiefeajappjnbaaGreatDoor

/- qparse.pairs: the pairs of an object, with ", " between. -/
namespace Go.Proofs.YtiefeajappjnbaaGreatDoor
open Go.RowKit
theorem pairsS_app (f:ExprD→ByteArray) (b:List ExprD):∀ (n:Nat) (a:List ExprD),a.length=2 * n→pairsS f (a++b)=pairsS f a++pairsS f b
 | 0,a,h=>by
   obtain rfl:a=[]:=List.length_eq_zero_iff.1 (by omega)
   simp [pairsS]
 | n+1,a,h=>by
   match a,h with
   | x::y::r,h =>
     simp only [List.cons_append,pairsS]
     rw [pairsS_app f b n r (by simp at h;omega)]
def pairT (f:ExprD→ByteArray) (k v:ExprD):ByteArray:=keyS f k++⟨#[58,32]⟩++atS f 2 v
theorem pairsS_step (f:ExprD→ByteArray) (l:List ExprD) {k:Nat} (h:2 * k+1<l.length):pairsS f (l.take (2 * k+2))=pairsS f (l.take (2 * k))++[pairT f l[2 * k] l[2 * k+1]]:=by
 rw [← List.take_append_getElem h,← List.take_append_getElem (show 2 * k<l.length by omega),List.append_assoc,pairsS_app f _ k _ (by rw [List.length_take];omega)]
 simp [pairsS,pairT]
theorem pairsS_len (f:ExprD→ByteArray):∀ (l:List ExprD),2 * (pairsS f l).length≤l.length
 | []=>by simp [pairsS]
 | [a]=>by simp [pairsS]
 | k::v::r=>by
   have:=pairsS_len f r
   simp only [pairsS,List.length_cons]
   omega
structure KeyP (y:ExprD):Prop where
 text:y.val.text.size≤65536
 valid:validS y.val.text=true
theorem cell_val {cs vs:List Value} (h:(cs.drop 2).take 13=vs) {j:Nat} (hj:j<13) {v:Value} (hv:vs[j]?=some v):cs[2+j]?=some v:=by
 rw [← h,List.getElem?_take_of_lt hj,List.getElem?_drop] at hv
 exact hv
theorem CellsAt.getA {w:World} {b o j:Nat} {cs:List Value} (h:CellsAt w b o cs) {v:Value} (hv:cs[j]?=some v):w.cell? ⟨b,o+j,none⟩=some v:=by
 have hj:j<cs.length:=(List.getElem?_eq_some_iff.1 hv).1
 have:=h j hj
 rw [this,hv]
set_option maxRecDepth 100000 in
set_option maxHeartbeats 6400000 in
theorem pairs_p (f:ExprD→ByteArray) (l:List ExprD) (n:Nat) (hl:Hid (l.length=2 * n)) (hz:l.length≤4096) (hk:∀ i (h:i<l.length),KidP f l[i]) (hy:∀ i (h:i<l.length),KeyP l[i]) (hfit:(joinS ⟨#[44,32]⟩ (pairsS f l)).size≤140737488355328) (a:Option Addr) (c:Nat) (w:World) (B N:Nat) (hN:N≤1048576) (hB:B≤w.heap.size) (hE:Env w) (hA:ExprsAt w B N l a) :
 Calls Tryz.prog 61 #[.slice a l.length c] w (StrB (⟨#[123]⟩++joinS ⟨#[44,32]⟩ (pairsS f l)++⟨#[125]⟩) w):=by
 obtain ⟨i0,hi,hz0,hz1,hz2⟩:=info_parts infoStr
 have HI:=Hd hi
 have HZ0:=Hd hz0
 have HZ1:=Hd hz1
 have HZ2:=Hd hz2
 have HK:=Hd hk
 have HY:=Hd hy
 have HE:=Hd hE
 have HA:=Hd hA
 have HFIT:=Hd hfit
 clear hi hz0 hz1 hz2 hk hE hA hy hfit
 go_enter Tryz.func61,Tryz.ntmps61
 go_wp2_with fail
 go_simp
 go_loopw [3,4] (fun v i wr=>∃ k:Nat,2 * k≤l.length∧i=.int .i64 (2 * k:Nat)∧Hid (wr.ownsRow w.heap.size 9 1 v (pairsS f (l.take (2 * k))).length ((pairsS f (l.take (2 * k))).map .string))∧Hid (Below w.heap.size w wr)) (fun _ i _=>l.length-(intOf i).toNat)
 case atStart=>exact ⟨0,by omega,rfl,Hd (World.ownsRow_nil _ _ _ _),Hd (Below.refl _ _)⟩
 case round =>
  obtain ⟨k,hkl,rfl,HO,HBr⟩:=hrel
  by_cases hlt:2 * k<l.length
  case neg =>
   obtain hkk:2 * k=l.length:=by have:=hl.out;omega
   rw [hkk] at HO ⊢
   rw [List.take_length] at HO
   have hln:=pairsS_len f l
   have sj1:∀ t:ByteArray,t.size≤140737488355328→(⟨#[123]⟩:ByteArray).size+t.size≤9223372036854775807:=fun t h=>by simp only [szl,List.size_toArray,List.length_cons,List.length_nil];omega
   have sj2:∀ t:ByteArray,t.size≤140737488355328→((⟨#[123]⟩:ByteArray)++t).size+(⟨#[125]⟩:ByteArray).size≤9223372036854775807:=fun t h=>by rw [ByteArray.size_append];simp only [szl,List.size_toArray,List.length_cons,List.length_nil];omega
   rcases HO.out.2 with ⟨rfl,h0⟩ | ⟨g,cap,cur,rfl,_,hb,h1,h2,_,_⟩
   ·have HR:=Hd (show joinS ⟨#[44,32]⟩ (pairsS f l)=⟨#[]⟩ by rw [List.length_eq_zero_iff.1 h0];rfl)
    have t1:=sj1 ⟨#[]⟩ (by decide)
    have t2:=sj2 ⟨#[]⟩ (by decide)
    clear h0 sj1 sj2
    go_wp2_with fail
    refine (Tryz.strings_Join_none none 0 _ _).mono ?_
    rintro e w2 ⟨rfl,rfl⟩
    go_wp2_with fail
    go_ret
    exact ⟨by rw [HR.out];rfl,HBr.out⟩
   ·have HGL:=Hd (Array.getElem?_eq_some_iff.1 hb).1
    have HCE:=Hd (show ∀ (j:Nat) x,(pairsS f l)[j]?=some x→wr.cell? ⟨g,0+j,none⟩=some (.string x) from fun j x hx=>by
     have h:=HO.out.cells (g:=g) rfl j (.string x) (by rw [List.getElem?_map,hx];rfl)
     rwa [addr_add'] at h)
    have HC1:=Hd h1
    have HJ:=Hd (join_S ⟨#[44,32]⟩ (pairsS f l))
    have t1:=sj1 _ HFIT.out
    have t2:=sj2 _ HFIT.out
    clear hb h1 h2 sj1 sj2
    go_wp2_with fail
    refine (Tryz.strings_Join g 0 cap (pairsS f l) ⟨#[44,32]⟩ wr HCE.out HGL.out (by omega) HC1.out (by
     have h:=congrArg ByteArray.size HJ.out
     have h2:=HFIT.out
     rw [← h] at h2
     have h3:(⟨(Lib.join ((pairsS f l).map (·.data.toList)) (⟨#[44,32]⟩:ByteArray).data.toList).toArray⟩:ByteArray).size=(Lib.join ((pairsS f l).map (·.data.toList)) (⟨#[44,32]⟩:ByteArray).data.toList).length:=by simp [ByteArray.size]
     rw [h3] at h2
     omega)).mono ?_
    rw [HJ.out]
    rintro e w2 ⟨rfl,hb2⟩
    have H2:=Hd (belowThen HBr.out hb2)
    clear hb2
    go_wp2_with fail
    go_ret
    exact ⟨rfl,H2.out⟩
  have hlt2:2 * k+1<l.length:=by have:=hl.out;omega
  obtain ⟨j,hj⟩:∃ j,2 * k=j:=⟨_,rfl⟩
  have HJ:=Hd hj
  rw [hj] at hlt hlt2 HO
  have HSTEP:=Hd (show pairsS f (l.take (j+2))=pairsS f (l.take j)++[pairT f l[j] l[j+1]] by subst hj;exact pairsS_step f l hlt2)
  simp only [hj]
  obtain ⟨b,o,rfl,hb,hget⟩:=HA.out.get (by intro h;rw [h] at hlt;simp at hlt)
  obtain ⟨as0,g1,g2⟩:=hget j hlt
  obtain ⟨as1,g3,g4⟩:=hget (j+1) hlt2
  obtain ⟨_,_,_,_,vs,gh⟩:=g2.has
  obtain ⟨_,_,_,_,_,_,gv⟩:=gh.atVal.has
  have hl1:=Hd (show (Tryz.prog.info? 34).map (·.size)=some as0.length by rw [g2.len];kernel_rfl)
  have hl2:=Hd (show (Tryz.prog.info? 34).map (·.size)=some as1.length by rw [g4.len];kernel_rfl)
  have HR1:=Hd (show ∀ u,Below w.heap.size w u→CellsAt u b (o+j * 17) as0 from fun u hu=>g1.below (hu.mono hB) hb)
  have HR2:=Hd (show ∀ u,Below w.heap.size w u→CellsAt u b (o+(j+1) * 17) as1 from fun u hu=>g3.below (hu.mono hB) hb)
  have HQ1:=Hd (show ∀ u,Below w.heap.size w u→ExprD.At u B N l[j] as0 from fun u hu=>g2.below (hu.mono hB))
  have HQ2:=Hd (show ∀ u,Below w.heap.size w u→ExprD.At u B N l[j+1] as1 from fun u hu=>g4.below (hu.mono hB))
  obtain ⟨p,hp⟩:∃ p,l[j].op=p:=⟨_,rfl⟩
  have HP:=Hd hp
  obtain ⟨q,hq⟩:∃ q,l[j].val.kind=q:=⟨_,rfl⟩
  have HQ:=Hd hq
  obtain ⟨tx,htx⟩:∃ tx,l[j].val.text=tx:=⟨_,rfl⟩
  have HTX:=Hd htx
  have HC0:=Hd (show as0[0]?=some (.int .i64 p) by rw [← hp];exact gh.op)
  have HC2:=Hd (show as0[2]?=some (.int .i64 q) by rw [← hq];exact cell_val gh.val (j:=0) (by omega) gv.kind)
  have HC11:=Hd (show as0[11]?=some (.string tx) by rw [← htx];exact cell_val gh.val (j:=9) (by omega) gv.text)
  have HK0:=Hd (HK.out j hlt)
  have HK1:=Hd (HK.out (j+1) hlt2)
  have HY0:=Hd (HY.out j hlt)
  have hlen:=Hd (show (pairsS f (l.take j)).length≤2048 by have:=pairsS_len f (l.take j);rw [List.length_take] at this;omega)
  obtain ⟨fk,hfk⟩:∃ fk,f l[j]=fk:=⟨_,rfl⟩
  have HFK:=Hd hfk
  have zk:fk.size≤274877906944:=by rw [← hfk];exact HK0.out.size
  have sc1:(⟨#[40]⟩:ByteArray).size+fk.size≤9223372036854775807:=by simp only [szl,List.size_toArray,List.length_cons,List.length_nil];omega
  have sc2:((⟨#[40]⟩:ByteArray)++fk).size+(⟨#[41]⟩:ByteArray).size≤9223372036854775807:=by rw [ByteArray.size_append];simp only [szl,List.size_toArray,List.length_cons,List.length_nil];omega
  obtain ⟨va,hva⟩:∃ va,atS f 2 l[j+1]=va:=⟨_,rfl⟩
  have HVA:=Hd hva
  have zv:va.size≤274877906946:=by rw [← hva];exact Nat.le_trans (atS_le f 2 _) (Nat.add_le_add_right HK1.out.size 2)
  clear g1 g2 g3 g4 gh gv hget hp hq htx hfk hva hj
  go_wp2_with ((with_reducible show wpList _ _ _ (⟨some 16,_,_,_,_,_⟩::_) _ _);refine wpList_load_mid rfl 34 _ rfl b (o+j * 17) rfl as0 _ (HR1.out _ HBr.out).range Tryz.underlying34 rfl hl1.out ?_)
  refine (arg_p f _ HK0.out 0 _ B N as0 hN (Nat.le_trans hB HBr.out.size) (HE.out.then HBr.out) (HQ1.out _ HBr.out)).mono ?_
  rw [atS_0,HFK.out]
  rintro e u1 ⟨rfl,hb1⟩
  have HB1:=Hd (belowThen HBr.out hb1)
  have HO1:=Hd (own_then' HO.out hb1)
  clear hb1
  have c0:=CellsAt.get0' (HR1.out _ HB1.out) HC0.out
  have c2:=CellsAt.getA (HR1.out _ HB1.out) HC2.out
  have c11:=CellsAt.getA (HR1.out _ HB1.out) HC11.out
  by_cases h3:p=3
  ·subst h3
   by_cases h4:q=4
   ·subst h4
    go_wp2_with fail
    refine (quote_w tx _ (by have:=HY0.out.text;rw [HTX.out] at this;exact this) (HE.out.then HB1.out) (by have:=HY0.out.valid;rw [HTX.out] at this;exact this)).mono ?_
    rintro e u2 ⟨rfl,hb2⟩
    have HB2:=Hd (belowThen HB1.out hb2)
    have HO2:=Hd (own_then' HO1.out hb2)
    clear hb2 c0 c2 c11
    have HKY:Hid (keyS f l[j]=quoteS tx):=Hd (by unfold keyS;rw [if_pos ⟨HP.out,HQ.out⟩,HTX.out])
    have HS2:=Hd (show pairsS f (l.take (j+2))=pairsS f (l.take j)++[quoteS tx++⟨#[58,32]⟩++va] by rw [HSTEP.out,pairT,HKY.out,HVA.out])
    have zy:(quoteS tx).size≤274877906946:=by exact Nat.le_trans (quoteS_size tx) (by have:=HY0.out.text;rw [HTX.out] at this;omega)
    have sd1:(quoteS tx).size+(⟨#[58,32]⟩:ByteArray).size≤9223372036854775807:=by simp only [szl,List.size_toArray,List.length_cons,List.length_nil] at zy ⊢;omega
    have sd2:(quoteS tx++⟨#[58,32]⟩).size+va.size≤9223372036854775807:=by rw [ByteArray.size_append];simp only [szl,List.size_toArray,List.length_cons,List.length_nil] at zy ⊢;omega
    clear zy
    go_wp2_with ((with_reducible show wpList _ _ _ (⟨some 49,_,_,_,_,_⟩::_) _ _);refine wpList_load_mid rfl 34 _ rfl b (o+(j+1) * 17) rfl as1 _ (HR2.out _ HB2.out).range Tryz.underlying34 rfl hl2.out ?_)
    refine (arg_p f _ HK1.out 2 _ B N as1 hN (Nat.le_trans hB HB2.out.size) (HE.out.then HB2.out) (HQ2.out _ HB2.out)).mono ?_
    rw [HVA.out]
    rintro e u3 ⟨rfl,hb3⟩
    have HB3:=Hd (belowThen HB2.out hb3)
    have HO3:=Hd (own_then' HO2.out hb3)
    clear hb3
    generalize hkv:quoteS tx++⟨#[58,32]⟩=kv at sd2 HS2 ⊢
    replace hkv:=Hd hkv
    go_wp2_with (first
     | (at_builtin;refine wpList_append_own _ rfl _ _ 86 rfl w.heap.size 9 i0 (.string ⟨#[]⟩) 1 16 Tryz.underlying86 HI.out HZ0.out HZ1.out HZ2.out rfl (by decide) _ _ _ rfl (HO3.out.alloc _) ⟨u3.heap.size,0,none⟩ 1 1 [.string (kv++va)] rfl rfl (cell_one_new _ _ _) (by simp [Value.oneCell']) (by have:=hlen.out;unfold maxLen;omega) (by have:=hlen.out;omega) (by have:=HB3.out.size;rw [World.size_alloc];omega) ?_;intro v' w5 hown' hg5 hnil5;go_frame))
    have HB5:=Hd (show Below w.heap.size w w5 from Below.grown (HB3.out.alloc HB3.out.size _) hg5 (by have:=HB3.out.size;rw [World.size_alloc];omega) (fun j hj=>(HO3.out.lt j hj).1))
    go_roundw
    case rel=>exact ⟨k+1,by have:=HJ.out;omega,by have:=HJ.out;go_num,Hd (by rw [show 2 * (k+1)=j+2 by have:=HJ.out;omega,HS2.out,List.length_append,List.map_append];simpa using hown'),HB5⟩
    case measure=>simp [intOf];omega
   ·have n1:(q==4)=false:=by simpa using h4
    have HKY:Hid (keyS f l[j]=((⟨#[40]⟩:ByteArray)++fk++⟨#[41]⟩)):=Hd (by unfold keyS;rw [if_neg (fun h=>h4 (HQ.out ▸ h.2)),HFK.out];rfl)
    have HS2:=Hd (show pairsS f (l.take (j+2))=pairsS f (l.take j)++[((⟨#[40]⟩:ByteArray)++fk++⟨#[41]⟩)++⟨#[58,32]⟩++va] by rw [HSTEP.out,pairT,HKY.out,HVA.out])
    have zy:(((⟨#[40]⟩:ByteArray)++fk++⟨#[41]⟩)).size≤274877906946:=by (repeat rw [ByteArray.size_append]);simp only [szl,List.size_toArray,List.length_cons,List.length_nil];omega
    have sd1:(((⟨#[40]⟩:ByteArray)++fk++⟨#[41]⟩)).size+(⟨#[58,32]⟩:ByteArray).size≤9223372036854775807:=by simp only [szl,List.size_toArray,List.length_cons,List.length_nil] at zy ⊢;omega
    have sd2:(((⟨#[40]⟩:ByteArray)++fk++⟨#[41]⟩)++⟨#[58,32]⟩).size+va.size≤9223372036854775807:=by rw [ByteArray.size_append];simp only [szl,List.size_toArray,List.length_cons,List.length_nil] at zy ⊢;omega
    clear zy
    go_wp2_with ((with_reducible show wpList _ _ _ (⟨some 49,_,_,_,_,_⟩::_) _ _);refine wpList_load_mid rfl 34 _ rfl b (o+(j+1) * 17) rfl as1 _ (HR2.out _ HB1.out).range Tryz.underlying34 rfl hl2.out ?_)
    refine (arg_p f _ HK1.out 2 _ B N as1 hN (Nat.le_trans hB HB1.out.size) (HE.out.then HB1.out) (HQ2.out _ HB1.out)).mono ?_
    rw [HVA.out]
    rintro e u3 ⟨rfl,hb3⟩
    have HB3:=Hd (belowThen HB1.out hb3)
    have HO3:=Hd (own_then' HO1.out hb3)
    clear hb3
    generalize hkv:((⟨#[40]⟩:ByteArray)++fk++⟨#[41]⟩)++⟨#[58,32]⟩=kv at sd2 HS2 ⊢
    replace hkv:=Hd hkv
    go_wp2_with (first
     | (at_builtin;refine wpList_append_own _ rfl _ _ 86 rfl w.heap.size 9 i0 (.string ⟨#[]⟩) 1 16 Tryz.underlying86 HI.out HZ0.out HZ1.out HZ2.out rfl (by decide) _ _ _ rfl (HO3.out.alloc _) ⟨u3.heap.size,0,none⟩ 1 1 [.string (kv++va)] rfl rfl (cell_one_new _ _ _) (by simp [Value.oneCell']) (by have:=hlen.out;unfold maxLen;omega) (by have:=hlen.out;omega) (by have:=HB3.out.size;rw [World.size_alloc];omega) ?_;intro v' w5 hown' hg5 hnil5;go_frame))
    have HB5:=Hd (show Below w.heap.size w w5 from Below.grown (HB3.out.alloc HB3.out.size _) hg5 (by have:=HB3.out.size;rw [World.size_alloc];omega) (fun j hj=>(HO3.out.lt j hj).1))
    go_roundw
    case rel=>exact ⟨k+1,by have:=HJ.out;omega,by have:=HJ.out;go_num,Hd (by rw [show 2 * (k+1)=j+2 by have:=HJ.out;omega,HS2.out,List.length_append,List.map_append];simpa using hown'),HB5⟩
    case measure=>simp [intOf];omega
  ·have n1:(p==3)=false:=by simpa using h3
   have HKY:Hid (keyS f l[j]=((⟨#[40]⟩:ByteArray)++fk++⟨#[41]⟩)):=Hd (by unfold keyS;rw [if_neg (fun h=>h3 (HP.out ▸ h.1)),HFK.out];rfl)
   have HS2:=Hd (show pairsS f (l.take (j+2))=pairsS f (l.take j)++[((⟨#[40]⟩:ByteArray)++fk++⟨#[41]⟩)++⟨#[58,32]⟩++va] by rw [HSTEP.out,pairT,HKY.out,HVA.out])
   have zy:(((⟨#[40]⟩:ByteArray)++fk++⟨#[41]⟩)).size≤274877906946:=by (repeat rw [ByteArray.size_append]);simp only [szl,List.size_toArray,List.length_cons,List.length_nil];omega
   have sd1:(((⟨#[40]⟩:ByteArray)++fk++⟨#[41]⟩)).size+(⟨#[58,32]⟩:ByteArray).size≤9223372036854775807:=by simp only [szl,List.size_toArray,List.length_cons,List.length_nil] at zy ⊢;omega
   have sd2:(((⟨#[40]⟩:ByteArray)++fk++⟨#[41]⟩)++⟨#[58,32]⟩).size+va.size≤9223372036854775807:=by rw [ByteArray.size_append];simp only [szl,List.size_toArray,List.length_cons,List.length_nil] at zy ⊢;omega
   clear zy
   go_wp2_with ((with_reducible show wpList _ _ _ (⟨some 49,_,_,_,_,_⟩::_) _ _);refine wpList_load_mid rfl 34 _ rfl b (o+(j+1) * 17) rfl as1 _ (HR2.out _ HB1.out).range Tryz.underlying34 rfl hl2.out ?_)
   refine (arg_p f _ HK1.out 2 _ B N as1 hN (Nat.le_trans hB HB1.out.size) (HE.out.then HB1.out) (HQ2.out _ HB1.out)).mono ?_
   rw [HVA.out]
   rintro e u3 ⟨rfl,hb3⟩
   have HB3:=Hd (belowThen HB1.out hb3)
   have HO3:=Hd (own_then' HO1.out hb3)
   clear hb3
   generalize hkv:((⟨#[40]⟩:ByteArray)++fk++⟨#[41]⟩)++⟨#[58,32]⟩=kv at sd2 HS2 ⊢
   replace hkv:=Hd hkv
   go_wp2_with (first
    | (at_builtin;refine wpList_append_own _ rfl _ _ 86 rfl w.heap.size 9 i0 (.string ⟨#[]⟩) 1 16 Tryz.underlying86 HI.out HZ0.out HZ1.out HZ2.out rfl (by decide) _ _ _ rfl (HO3.out.alloc _) ⟨u3.heap.size,0,none⟩ 1 1 [.string (kv++va)] rfl rfl (cell_one_new _ _ _) (by simp [Value.oneCell']) (by have:=hlen.out;unfold maxLen;omega) (by have:=hlen.out;omega) (by have:=HB3.out.size;rw [World.size_alloc];omega) ?_;intro v' w5 hown' hg5 hnil5;go_frame))
   have HB5:=Hd (show Below w.heap.size w w5 from Below.grown (HB3.out.alloc HB3.out.size _) hg5 (by have:=HB3.out.size;rw [World.size_alloc];omega) (fun j hj=>(HO3.out.lt j hj).1))
   go_roundw
   case rel=>exact ⟨k+1,by have:=HJ.out;omega,by have:=HJ.out;go_num,Hd (by rw [show 2 * (k+1)=j+2 by have:=HJ.out;omega,HS2.out,List.length_append,List.map_append];simpa using hown'),HB5⟩
   case measure=>simp [intOf];omega
end Go.Proofs.YtiefeajappjnbaaGreatDoor

/- A list written piece by piece. No program here. -/
namespace Go.Proofs.YtiefeajappjnbaaGreatDoor
open Go.RowKit
theorem joinS_snoc (sep:ByteArray) (b:ByteArray):∀ l:List ByteArray,l≠[]→joinS sep (l++[b])=joinS sep l++sep++b
 | [],h=>absurd rfl h
 | [a],_=>rfl
 | a::c::r,_=>by
   have ih:=joinS_snoc sep b (c::r) (by simp)
   show a++sep++joinS sep (c::r++[b])=a++sep++joinS sep (c::r)++sep++b
   rw [ih]
   simp only [ByteArray.append_assoc]
def accS (pre op sep:ByteArray) (l:List ByteArray):ByteArray:=if l=[] then pre else pre++op++joinS sep l
theorem accS_nil (pre op sep:ByteArray):accS pre op sep []=pre:=rfl
theorem accS_one (pre op sep a:ByteArray):accS pre op sep ([]++[a])=pre++op++a:=rfl
theorem accS_step (pre op sep a:ByteArray) {l:List ByteArray} (h:l≠[]):accS pre op sep (l++[a])=accS pre op sep l++sep++a:=by
 unfold accS
 rw [if_neg (by simp),if_neg h,joinS_snoc sep a l h]
 simp only [ByteArray.append_assoc]
theorem joinS_size' (sep:ByteArray) (K:Nat):∀ l:List ByteArray,(∀ s∈l,s.size≤K)→(joinS sep l).size≤l.length * (K+sep.size)
 | [],_=>by simp [joinS,szl]
 | [a],h=>by
   have:=h a (by simp)
   simp only [joinS,List.length_cons,List.length_nil]
   omega
 | a::c::r,h=>by
   have ih:=joinS_size' sep K (c::r) (fun s hs=>h s (List.mem_cons_of_mem _ hs))
   have h0:=h a (List.mem_cons_self)
   show (a++sep++joinS sep (c::r)).size≤_
   rw [ByteArray.size_append,ByteArray.size_append]
   simp only [List.length_cons,Nat.add_mul,Nat.one_mul] at ih ⊢
   omega
theorem accS_size (pre op sep:ByteArray) (K n:Nat) (l:List ByteArray) (h:∀ s∈l,s.size≤K) (hn:l.length≤n):(accS pre op sep l).size≤pre.size+op.size+n * (K+sep.size):=by
 have h1:=joinS_size' sep K l h
 have h2:l.length * (K+sep.size)≤n * (K+sep.size):=Nat.mul_le_mul_right _ hn
 unfold accS
 split
 ·omega
 ·rw [ByteArray.size_append,ByteArray.size_append];omega
theorem map_take_step {α:Type} (g:α→ByteArray) (l:List α) {k:Nat} (h:k<l.length):(l.take (k+1)).map g=(l.take k).map g++[g l[k]]:=by
 rw [List.take_succ_eq_append_getElem h,List.map_append]
 rfl
theorem map_take_ne {α:Type} (g:α→ByteArray) (l:List α) {k:Nat} (h:k<l.length) (h0:k≠0):(l.take k).map g≠[]:=by
 intro h2
 have:=congrArg List.length h2
 rw [List.length_map,List.length_take,List.length_nil] at this
 omega
theorem map_take_size {α:Type} (g:α→ByteArray) (l:List α) (k K:Nat) (h:∀ a∈l,(g a).size≤K):∀ s∈(l.take k).map g,s.size≤K:=fun s hs=>by
 obtain ⟨a,ha,rfl⟩:=List.mem_map.1 hs
 exact h a (List.mem_of_mem_take ha)
def braS (l:List ByteArray):ByteArray:=⟨#[123]⟩++joinS ⟨#[44,32]⟩ l
theorem braS_one (a:ByteArray):braS ([]++[a])=⟨#[123]⟩++a:=rfl
theorem braS_step {l:List ByteArray} (a:ByteArray) (h:l≠[]):braS (l++[a])=braS l++⟨#[44,32]⟩++a:=by
 unfold braS
 rw [joinS_snoc _ a l h]
 simp only [ByteArray.append_assoc]
theorem joinS_take (sep:ByteArray):∀ (l r:List ByteArray),(joinS sep l).size≤(joinS sep (l++r)).size
 | [],r=>by simp [joinS,szl]
 | [a],[]=>by simp [joinS]
 | [a],b::r=>by
   show a.size≤(a++sep++joinS sep (b::r)).size
   rw [ByteArray.size_append,ByteArray.size_append];omega
 | a::c::l,r=>by
   have ih:=joinS_take sep (c::l) r
   show (a++sep++joinS sep (c::l)).size≤(a++sep++joinS sep (c::l++r)).size
   rw [ByteArray.size_append,ByteArray.size_append,ByteArray.size_append,ByteArray.size_append];omega
theorem pairsS_take (f:ExprD→ByteArray) (l:List ExprD) (n:Nat) (h:2 * n≤l.length):(joinS ⟨#[44,32]⟩ (pairsS f (l.take (2 * n)))).size≤(joinS ⟨#[44,32]⟩ (pairsS f l)).size:=by
 have h1:=pairsS_app f (l.drop (2 * n)) n (l.take (2 * n)) (by rw [List.length_take];omega)
 rw [List.take_append_drop] at h1
 rw [h1]
 exact joinS_take _ _ _
theorem pairsS_ne (f:ExprD→ByteArray) (l:List ExprD) {n:Nat} (h:2 * n≤l.length) (h0:n≠0):pairsS f (l.take (2 * n))≠[]:=by
 match n,l,h,h0 with
 | 0,_,_,h0=>exact absurd rfl h0
 | n+1,a::b::r,_,_ =>
   show pairsS f (a::b::r.take (2 * n))≠[]
   simp [pairsS]
 | n+1,[a],h,_=>simp at h;omega
 | n+1,[],h,_=>simp at h
end Go.Proofs.YtiefeajappjnbaaGreatDoor
