/- Names that were seen: plain laws of funsE and parsE. No program here. -/
import Derived.Test.YticpebgjbfanpaaGreatDoorHP
import Derived.Test.YticpebgjbfanpaaGreatDoorGA
namespace Go.Proofs.YticpebgjbfanpaaGreatDoor
open Go.RowKit
def nmsF (l:List FuncD):List ByteArray:=l.map (·.name)
def nmsP (l:List ParD):List ByteArray:=l.map (·.name)
theorem any_yes {L:List ByteArray} {k j:Nat} {nm:ByteArray} (hj:j<k) (hl:j<L.length) (h:(L[j].toList==nm.toList)=true):((L.take k).any fun s=>s.toList==nm.toList)=true:=by
 rw [List.any_eq_true]
 refine ⟨L[j],?_,h⟩
 rw [List.mem_take_iff_getElem]
 exact ⟨j,by omega,rfl⟩
theorem any_no {L:List ByteArray} {k:Nat} {nm:ByteArray} (h:∀ j (hl:j<L.length),j<k→(L[j].toList==nm.toList)=false):((L.take k).any fun s=>s.toList==nm.toList)=false:=by
 rw [List.any_eq_false]
 intro s hs
 rw [List.mem_take_iff_getElem] at hs
 obtain ⟨j,hj,rfl⟩:=hs
 have:=h j (by omega) (by omega)
 simpa using this
theorem take_next {L:List ByteArray} {k:Nat} (h:k<L.length):L.take (k+1)=L.take k++[L[k]]:=by rw [List.take_append_getElem]
theorem nmsF_len (l:List FuncD):(nmsF l).length=l.length:=by unfold nmsF;simp
theorem nmsP_len (l:List ParD):(nmsP l).length=l.length:=by unfold nmsP;simp
theorem nmsF_get {l:List FuncD} {j:Nat} (h:j<l.length):(nmsF l)[j]'(by rw [nmsF_len];exact h)=l[j].name:=by unfold nmsF;simp
theorem nmsP_get {l:List ParD} {j:Nat} (h:j<l.length):(nmsP l)[j]'(by rw [nmsP_len];exact h)=l[j].name:=by unfold nmsP;simp
def paE (l:List ParD) (k:Nat):Int:=parsE identB ((nmsP l).take k) (l.drop k)
theorem paE_0 (l:List ParD):paE l 0=parsE identB [] l:=rfl
theorem paE_end (l:List ParD):paE l l.length=0:=by unfold paE;rw [List.drop_length];rfl
theorem paE_16 {l:List ParD} {k:Nat} (h:k<l.length) (hi:identB l[k].name=false):paE l k=16:=by
 unfold paE;rw [parsE_step identB h,if_pos hi]
theorem paE_8 {l:List ParD} {k j:Nat} (h:k<l.length) (hi:identB l[k].name=true) (hj:j<k) (he:(l[j].name.toList==l[k].name.toList)=true):paE l k=8:=by
 unfold paE
 rw [parsE_step identB h,if_neg (by rw [hi];simp),if_pos (any_yes hj (by rw [nmsP_len];omega) (by rw [nmsP_get (by omega)];exact he))]
theorem paE_next {l:List ParD} {k:Nat} (h:k<l.length) (hi:identB l[k].name=true) (hn:∀ j (hj:j<k),(l[j].name.toList==l[k].name.toList)=false):paE l k=paE l (k+1):=by
 unfold paE
 rw [parsE_step identB h,if_neg (by rw [hi];simp),if_neg (by
  rw [any_no (fun j hl hjk=>by rw [nmsP_get (by omega)];exact hn j hjk)];simp),take_next (by rw [nmsP_len];exact h),nmsP_get h]
def fuE (m:Nat) (l:List FuncD) (k:Nat) (s:Int):Int×Int:=funsE identB (lkE m) ((nmsF l).take k) (l.drop k) s
theorem fnE_big {m:Nat} {l:List FuncD} {s:Int} (h:256<l.length):fnE m l s=(s,10):=by unfold fnE;rw [if_pos h]
theorem fnE_0 {m:Nat} {l:List FuncD} {s:Int} (h:¬ 256<l.length):fnE m l s=fuE m l 0 s:=by unfold fnE;rw [if_neg h];rfl
theorem fuE_end (m:Nat) (l:List FuncD) (s:Int):fuE m l l.length s=(s,0):=by unfold fuE;rw [List.drop_length];rfl
theorem fuE_head {m:Nat} {l:List FuncD} {k:Nat} {s z:Int} (h:k<l.length) (hz:z≠0) (hh:headE identB ((nmsF l).take k) l[k].name l[k].params=z):fuE m l k s=(s,z):=by
 unfold fuE
 rw [funsE_step identB (lkE m) h,hh,if_pos hz]
theorem fuE_16 {m:Nat} {l:List FuncD} {k:Nat} {s:Int} (h:k<l.length) (hi:identB l[k].name=false):fuE m l k s=(s,16) :=
 fuE_head h (by decide) (by unfold headE;rw [if_pos hi])
theorem fuE_10 {m:Nat} {l:List FuncD} {k:Nat} {s:Int} (h:k<l.length) (hi:identB l[k].name=true) (h8:8<l[k].params.length):fuE m l k s=(s,10) :=
 fuE_head h (by decide) (by unfold headE;rw [if_neg (by rw [hi];simp),if_pos h8])
theorem fuE_par {m:Nat} {l:List FuncD} {k:Nat} {s z:Int} (h:k<l.length) (hi:identB l[k].name=true) (h8:¬ 8<l[k].params.length) (hz:z≠0) (hp:paE l[k].params 0=z):fuE m l k s=(s,z) :=
 fuE_head h hz (by unfold headE;rw [if_neg (by rw [hi];simp),if_neg h8,← paE_0,hp,if_pos hz])
theorem fuE_8 {m:Nat} {l:List FuncD} {k j:Nat} {s:Int} (h:k<l.length) (hi:identB l[k].name=true) (h8:¬ 8<l[k].params.length) (hp:paE l[k].params 0=0) (hj:j<k)
 (he:(l[j].name.toList==l[k].name.toList)=true):fuE m l k s=(s,8) :=
 fuE_head h (by decide) (by
  unfold headE
  rw [if_neg (by rw [hi];simp),if_neg h8,← paE_0,hp,if_neg (by simp),if_pos (any_yes hj (by rw [nmsF_len];omega) (by rw [nmsF_get (by omega)];exact he))])
theorem fuE_go {m:Nat} {l:List FuncD} {k:Nat} {s:Int} (h:k<l.length) (hi:identB l[k].name=true) (h8:¬ 8<l[k].params.length) (hp:paE l[k].params 0=0)
 (hn:∀ j (hj:j<k),(l[j].name.toList==l[k].name.toList)=false):fuE m l k s=if (lkE m l[k].body s).2≠0 then lkE m l[k].body s else fuE m l (k+1) (lkE m l[k].body s).1:=by
 unfold fuE
 rw [funsE_step identB (lkE m) h,show headE identB ((nmsF l).take k) l[k].name l[k].params=0 from by
  unfold headE
  rw [if_neg (by rw [hi];simp),if_neg h8,← paE_0,hp,if_neg (by simp),if_neg (by
   rw [any_no (fun j hl hjk=>by rw [nmsF_get (by rw [nmsF_len] at hl;exact hl)];exact hn j hjk)];simp)],if_neg (by simp),take_next (by rw [nmsF_len];exact h),nmsF_get h]
end Go.Proofs.YticpebgjbfanpaaGreatDoor

/- The reference's check of functions (datakitref36.funcs),given 'look' at the same depth: what fnE says;the reference's Check is chkE. -/
namespace Go.Proofs.YticpebgjbfanpaaGreatDoor
open Go.RowKit
set_option maxRecDepth 100000 in
set_option maxHeartbeats 6400000 in
theorem funs_x (m:Nat) (ih:LookX m):FunsX m:=by
 intro l a c w B N depth s hd hs0 hs1 hN hB hl hA
 have IH:=Hd ih
 have HD:=Hd hd
 have HA:=Hd hA
 clear ih hd hA
 by_cases hbig:256<l.length
 ·have HR:=Hd (fnE_big (m:=m) (s:=s) hbig)
  go_enter Tryz.func114,Tryz.ntmps114
  go_wp2_with fail
  go_ret2
  exact pair_ret HR.out (Below.refl _ _)
 have H00:=Hd (fnE_0 (m:=m) (s:=s) hbig)
 go_enter Tryz.func114,Tryz.ntmps114
 go_wp2_with fail
 go_simp
 go_loopw [2,10] (fun sv i wr=>∃ (y:Int) (k:Nat),k≤l.length∧fnE m l s=fuE m l k y∧0≤y∧y≤4096∧sv=.int .i64 y∧i=.int .i64 k∧Below w.heap.size w wr) (fun _ i _=>l.length-(intOf i).toNat)
 case atStart=>exact ⟨_,0,by omega,H00.out,hs0,hs1,rfl,rfl,Below.refl _ _⟩
 case round =>
  obtain ⟨w1,rfl⟩:∃ w1,w1=wr:=⟨wr,rfl⟩
  obtain ⟨y,k,hk,hfu,hy0,hy1,rfl,rfl,hbel⟩:=hrel
  have HB:=Hd hbel
  have HFU:=Hd hfu
  clear hbel hfu
  by_cases hlt:k<l.length
  case neg =>
   obtain rfl:k=l.length:=by omega
   have HR:=Hd (show fnE m l s=(y,0) by rw [HFU.out,fuE_end])
   go_wp2_with fail
   go_ret2
   exact pair_ret HR.out HB.out
  obtain ⟨b,p,rfl,hb,hget⟩:=HA.out.get (by intro h;simp [h] at hlt)
  have hbw:=Hd (Nat.lt_of_lt_of_le hb hB)
  have hBr:=Hd (Nat.le_trans hB HB.out.size)
  have G:=Hd hget
  obtain ⟨fs,g1,g2⟩:=hget k hlt
  have HR:=Hd (g1.below HB.out hbw.out).range
  obtain ⟨pa,pc,es,gh⟩:=(g2.below (HB.out.mono hB)).has
  have f0:=gh.name
  have f1:=gh.params
  have hlf:=Hd (show (Tryz.prog.info? 82).map (·.size)=some fs.length by rw [gh.len];exact sizeFN)
  have hlf2:=Hd (show (Tryz.prog.info? 82).map (·.size)=some fs.toArray.size by rw [List.size_toArray,gh.len];exact sizeFN)
  have h19:=Hd (show 19=fs.toArray.size by rw [List.size_toArray,gh.len])
  have hone:=Hd (show fs.toArray.all (·.oneCell')=true from Go.all_oneCell_toArray gh.one)
  have hnm:=Hd (show (l[k]).name.size≤maxLen by have:=gh.hn;unfold maxLen;omega)
  have hpl:(l[k]).params.length≤N:=gh.hp
  have HP:=Hd gh.atPar
  have HE:=Hd gh.atBody
  have HBd:=Hd gh.body
  have FX:=Hd (box_at w1 fs 82)
  have HW:=Hd (show Below w.heap.size w (w1.alloc (.cells fs.toArray 82)) from belowThen HB.out (belowBox w1 _))
  have hwr:=Hd (show w1.heap.size<(w1.alloc (.cells fs.toArray 82)).heap.size by rw [World.size_alloc];omega)
  clear gh g1 g2 hget hb
  obtain ⟨ib,hib⟩:∃ v,identB (l[k]).name=v:=⟨_,rfl⟩
  have HI:=Hd hib
  clear hib
  go_wp2_with (first
   | (refine wpList_load_mid rfl 82 _ rfl b (p+k * 19) rfl fs _ HR.out Tryz.underlying82 rfl hlf.out ?_)
   | (refine wpList_store_new rfl 82 _ _ rfl _ fs.toArray rfl rfl hlf2.out h19.out hone.out ?_))
  refine (identR _ _ hnm.out).mono ?_
  rintro e w' ⟨rfl,rfl⟩
  rw [HI.out]
  cases ib
  case false =>
   have HZ:=Hd (show fnE m l s=(y,16) by rw [HFU.out,fuE_16 hlt HI.out])
   go_wp2_with fail
   go_ret2
   exact pair_ret HZ.out HW.out
  by_cases h8:8<(l[k]).params.length
  ·have HZ:=Hd (show fnE m l s=(y,10) by rw [HFU.out,fuE_10 hlt HI.out h8])
   go_wp2_with fail
   go_ret2
   exact pair_ret HZ.out HW.out
  have H8:=Hd (show ¬ 8<(l[k]).params.length from h8)
  go_wp2_with fail
  go_simp
  go_loopw [12] (fun i w2=>∃ (k2:Nat),k2≤(l[k]).params.length∧paE (l[k]).params 0=paE (l[k]).params k2∧i=.int .i64 k2∧Below (w1.alloc (.cells fs.toArray 82)).heap.size (w1.alloc (.cells fs.toArray 82)) w2) (fun i _=>(l[k]).params.length-(intOf i).toNat)
  case atStart=>exact ⟨0,by omega,rfl,rfl,Below.refl _ _⟩
  case round =>
   obtain ⟨w2,rfl⟩:∃ w2,w2=wr:=⟨wr,rfl⟩
   obtain ⟨k2,hk2,hpp,rfl,hb2⟩:=hrel
   have F2:=Hd (FX.out.below hb2 hwr.out)
   have B2:=Hd hb2
   have HPP:=Hd hpp
   clear hb2 hpp
   have d1:=F2.out.get0 f1
   by_cases hlt2:k2<(l[k]).params.length
   case pos =>
    obtain ⟨b2,p2,rfl,hp2,hpar⟩:=HP.out.get (by intro h;simp [h] at hlt2)
    have PB:=Hd (show Below B w1 w2 from ((belowThen (belowBox w1 _) B2.out).mono hBr.out))
    have GP:=Hd hpar
    have q0:=((hpar k2 hlt2).2.below PB.out hp2).get0' rfl
    have hn2:=Hd (show ((l[k]).params[k2]).name.size≤maxLen by have:=(hpar k2 hlt2).1;unfold maxLen;omega)
    clear hpar
    obtain ⟨pb,hpb⟩:∃ v,identB ((l[k]).params[k2]).name=v:=⟨_,rfl⟩
    have HPB:=Hd hpb
    clear hpb
    go_wp2_with fail
    refine (identR _ _ hn2.out).mono ?_
    rintro e w' ⟨rfl,rfl⟩
    rw [HPB.out]
    cases pb
    case false =>
     have HZ:=Hd (show fnE m l s=(y,16) by rw [HFU.out,fuE_par hlt HI.out (by have:=H8.out;omega) (by decide) (HPP.out.trans (paE_16 hlt2 HPB.out))])
     go_wp2_with fail
     go_ret2
     exact pair_ret HZ.out (belowThen HW.out B2.out)
    go_wp2_with fail
    go_simp
    go_loopw [13] (fun i w3=>∃ (k3:Nat),k3≤k2∧i=.int .i64 k3∧Hid (∀ j (hj:j<k3) (hl:j<(l[k]).params.length),((l[k]).params[j].name.toList==(l[k]).params[k2].name.toList)=false)∧∃ q,w3=w2.drewN q) (fun i _=>k2-(intOf i).toNat)
    case atStart=>exact ⟨0,by omega,rfl,Hd fun j hj=>absurd hj (by omega),0,rfl⟩
    case round =>
     obtain ⟨k3,hk3,rfl,HNE,q,rfl⟩:=hrel
     by_cases hlt3:k3<k2
     case pos =>
      have hlt4:k3<(l[k]).params.length:=by omega
      have q1:=((GP.out k3 hlt4).2.below PB.out hp2).get0' rfl
      cases he:((l[k]).params[k3].name.toList==(l[k]).params[k2].name.toList)
      ·have HN3:=Hd (show ∀ j (hj:j<k3+1) (hl:j<(l[k]).params.length),((l[k]).params[j].name.toList==(l[k]).params[k2].name.toList)=false from fun j hj hl=>by
        by_cases hjk:j=k3
        ·subst hjk;exact he
        ·exact HNE.out j (by omega) hl)
       go_wp2_with fail
       go_quiet (fail)
       go_wp2_with fail
       go_roundw
       case rel=>exact ⟨k3+1,by omega,by go_num,HN3,_,rfl⟩
       case measure=>simp [intOf];omega
      ·have HZ:=Hd (show fnE m l s=(y,8) by rw [HFU.out,fuE_par hlt HI.out (by have:=H8.out;omega) (by decide) (HPP.out.trans (paE_8 hlt2 HPB.out hlt3 he))])
       go_wp2_with fail
       go_quiet (fail)
       go_wp2_with fail
       go_ret2
       exact pair_ret HZ.out (belowThen (belowThen HW.out B2.out) (below_drewN' ⟨_,World.drewN_drewN _ _ _⟩))
     case neg =>
      have HPN:=Hd (HPP.out.trans (paE_next hlt2 HPB.out (fun j hj=>HNE.out j (by omega) (by omega))))
      go_wp2_with fail
      go_roundw
      case rel=>exact ⟨k2+1,by omega,HPN.out,by go_num,belowThen B2.out (below_drewN _ _)⟩
      case measure=>simp [intOf];omega
   case neg =>
    have HP0:=Hd (show paE (l[k]).params 0=0 by rw [HPP.out,show k2=(l[k]).params.length by omega,paE_end])
    have hw2:w1.heap.size<w2.heap.size:=Nat.lt_of_lt_of_le hwr.out B2.out.size
    have BB:=Hd (show Below w.heap.size w w2 from belowThen HW.out B2.out)
    have d0:=F2.out.get0 f0
    have FE:=Hd (F2.out.drop2 HBd.out)
    have HE2:=Hd (HE.out.below (show Below B w1 w2 from ((belowThen (belowBox w1 _) B2.out).mono hBr.out)))
    have hle:=Hd (show (Tryz.prog.info? 34).map (·.size)=some es.length by rw [HE.out.len];exact sizeE)
    go_wp2_with fail
    go_simp
    go_loopw [14] (fun i w3=>∃ (k4:Nat),k4≤k∧i=.int .i64 k4∧Hid (∀ j (hj:j<k4) (hl:j<l.length),(l[j].name.toList==l[k].name.toList)=false)∧∃ q,w3=w2.drewN q) (fun i _=>k-(intOf i).toNat)
    case atStart=>exact ⟨0,by omega,rfl,Hd fun j hj=>absurd hj (by omega),0,rfl⟩
    case round =>
     obtain ⟨k4,hk4,rfl,HNE,q,rfl⟩:=hrel
     by_cases hlt4:k4<k
     case pos =>
      have hlt5:k4<l.length:=by omega
      obtain ⟨fs4,g1,g2⟩:=G.out k4 hlt5
      obtain ⟨_,_,_,gh⟩:=g2.has
      have q1:=(g1.below BB.out hbw.out).get0' gh.name
      clear gh g1 g2
      cases he:(l[k4].name.toList==l[k].name.toList)
      ·have HN4:=Hd (show ∀ j (hj:j<k4+1) (hl:j<l.length),(l[j].name.toList==l[k].name.toList)=false from fun j hj hl=>by
        by_cases hjk:j=k4
        ·subst hjk;exact he
        ·exact HNE.out j (by omega) hl)
       go_wp2_with fail
       go_quiet (fail)
       go_wp2_with fail
       go_roundw
       case rel=>exact ⟨k4+1,by omega,by go_num,HN4,_,rfl⟩
       case measure=>simp [intOf];omega
      ·have HZ:=Hd (show fnE m l s=(y,8) by rw [HFU.out,fuE_8 hlt HI.out (by have:=H8.out;omega) HP0.out hlt4 he])
       go_wp2_with fail
       go_quiet (fail)
       go_wp2_with fail
       go_ret2
       exact pair_ret HZ.out (belowThen BB.out (below_drewN' ⟨_,World.drewN_drewN _ _ _⟩))
     case neg =>
      have HGO:=Hd (HFU.out.trans (fuE_go hlt HI.out (by have:=H8.out;omega) HP0.out (fun j hj=>HNE.out j (by omega) (by omega))))
      have HR2:=Hd (FE.out.below (below_drewN w2 q) hw2).range
      have hBw:B≤w2.heap.size:=Nat.le_trans hB BB.out.size
      have HE3:=Hd (HE2.out.below ((below_drewN w2 q).mono hBw))
      have BBq:=Hd (belowThen BB.out (below_drewN w2 q))
      have HRG:=Hd (lkE_range m (l[k]).body y hy0 hy1)
      obtain ⟨y6,z6,h6⟩:∃ a b,lkE m (l[k]).body y=(a,b):=⟨_,_,rfl⟩
      rw [h6] at HGO HRG
      have H6:=Hd h6
      clear h6
      go_wp2_with (refine wpList_load_mid rfl 34 _ rfl w1.heap.size 2 rfl es _ HR2.out Tryz.underlying34 rfl hle.out ?_)
      refine (IH.out (l[k]).body _ B N es depth y HD.out hy0 hy1 hN (Nat.le_trans hB BBq.out.size) HE3.out).mono ?_
      rintro e6 w6 ⟨rfl,hb6⟩
      rw [H6.out]
      have HB6:=Hd (belowThen BBq.out hb6)
      clear hb6
      by_cases hz:z6=0
      ·subst hz
       have HZ:=Hd (show fnE m l s=fuE m l (k+1) y6 by rw [HGO.out,if_neg (by simp)])
       go_wp2_with fail
       go_roundw
       case rel=>exact ⟨y6,k+1,by omega,HZ.out,HRG.out.1,HRG.out.2,rfl,by go_num,HB6.out⟩
       case measure=>simp [intOf];omega
      ·have HZ:=Hd (show fnE m l s=(y6,z6) by rw [HGO.out,if_pos hz])
       have hz1:(z6 != 0)=true:=by simpa using hz
       have hz2:(z6==0)=false:=by simpa using hz
       go_wp2_with fail
       go_ret2
       exact pair_ret HZ.out HB6.out
theorem look_x0:LookX 0:=by
 intro x w B N cs depth s hd hs0 hs1 hN hB hx
 have H0:=Hd (show Below w.heap.size w (w.alloc (.cells cs.toArray 34)) from belowBox w _)
 have HR:=Hd (show lkE 0 x s=(s,9) from rfl)
 clear hx
 go_enter Tryz.func76,Tryz.ntmps76
 go_wp2_with fail
 go_ret2
 exact pair_ret HR.out H0.out
theorem look_all:∀ m,LookX m
 | 0=>look_x0
 | m+1=>look_x m (look_all m) (funs_x m (look_all m))
def errE (e:ExprD):Int:=(lkE 48 e 0).2
theorem check_r (x:ExprD) (w:World) (B N:Nat) (cs:List Value) (hN:N≤1073741824) (hB:B≤w.heap.size) (hx:ExprD.At w B N x cs) :
 Calls Tryz.prog 48 #[.agg cs.toArray] w (IntB (errE x) w):=by
 have HX:=Hd hx
 have hl:=Hd (show (Tryz.prog.info? 34).map (·.size)=some cs.length by rw [hx.len];exact sizeE)
 have H0:=Hd (show Below w.heap.size w (w.alloc (.cells cs.toArray 34)) from belowBox w _)
 clear hx
 obtain ⟨y,z,h⟩:∃ a b,lkE 48 x 0=(a,b):=⟨_,_,rfl⟩
 have H:=Hd h
 have HZ:=Hd (show errE x=z by unfold errE;rw [h])
 clear h
 go_enter Tryz.func48,Tryz.ntmps48
 go_wp2_with (refine wpList_load_mid rfl 34 _ rfl w.heap.size 0 rfl cs _ (box_at w cs 34).range Tryz.underlying34 rfl hl.out ?_)
 refine (look_all 48 x _ B N cs 1 0 (by omega) (by omega) (by omega) hN (Nat.le_trans hB H0.out.size) (HX.out.below (H0.out.mono hB))).mono ?_
 rintro e w1 ⟨rfl,hb1⟩
 rw [H.out]
 have H1:=Hd (belowThen H0.out hb1)
 clear hb1
 go_wp2_with fail
 go_ret
 exact ⟨ret_int HZ.out.symm,H1.out⟩
end Go.Proofs.YticpebgjbfanpaaGreatDoor
