/- A module's functions: both checks of them (printed by genmdf36.py out of Fus36 and Fup36). -/
import Derived.Test.YtiefeajappjnbaaGreatDoorGA
import Derived.Test.YtiefeajappjnbaaGreatDoorHA
namespace Go.Proofs.YtiefeajappjnbaaGreatDoor
open Go.RowKit
def funsO:List ByteArray→List FuncD→Int
 | _,[]=>0
 | seen,x::r=>if headE identB seen x.name x.params≠0 then headE identB seen x.name x.params else if errE x.body≠0 then errE x.body else funsO (seen++[x.name]) r
def fnO (l:List FuncD):Int:=if 256<l.length then 10 else funsO [] l
def fuO (l:List FuncD) (k:Nat):Int:=funsO ((nmsF l).take k) (l.drop k)
theorem funsO_step {l:List FuncD} {i:Nat} (h:i<l.length) (seen:List ByteArray):funsO seen (l.drop i)=if headE identB seen l[i].name l[i].params≠0 then headE identB seen l[i].name l[i].params else if errE l[i].body≠0 then errE l[i].body else funsO (seen++[l[i].name]) (l.drop (i+1)):=by
 rw [List.drop_eq_getElem_cons h]
 rfl
theorem fnO_big {l:List FuncD} (h:256<l.length):fnO l=10:=by unfold fnO;rw [if_pos h]
theorem fnO_0 {l:List FuncD} (h:¬ 256<l.length):fnO l=fuO l 0:=by unfold fnO;rw [if_neg h];rfl
theorem fuO_end (l:List FuncD):fuO l l.length=0:=by unfold fuO;rw [List.drop_length];rfl
theorem fuO_head {l:List FuncD} {k:Nat} {z:Int} (h:k<l.length) (hz:z≠0) (hh:headE identB ((nmsF l).take k) l[k].name l[k].params=z):fuO l k=z:=by
 unfold fuO
 rw [funsO_step h,hh,if_pos hz]
theorem fuO_16 {l:List FuncD} {k:Nat} (h:k<l.length) (hi:identB l[k].name=false):fuO l k=16 :=
 fuO_head h (by decide) (by unfold headE;rw [if_pos hi])
theorem fuO_10 {l:List FuncD} {k:Nat} (h:k<l.length) (hi:identB l[k].name=true) (h8:8<l[k].params.length):fuO l k=10 :=
 fuO_head h (by decide) (by unfold headE;rw [if_neg (by rw [hi];simp),if_pos h8])
theorem fuO_par {l:List FuncD} {k:Nat} {z:Int} (h:k<l.length) (hi:identB l[k].name=true) (h8:¬ 8<l[k].params.length) (hz:z≠0) (hp:paE l[k].params 0=z):fuO l k=z :=
 fuO_head h hz (by unfold headE;rw [if_neg (by rw [hi];simp),if_neg h8,← paE_0,hp,if_pos hz])
theorem fuO_8 {l:List FuncD} {k j:Nat} (h:k<l.length) (hi:identB l[k].name=true) (h8:¬ 8<l[k].params.length) (hp:paE l[k].params 0=0) (hj:j<k)
 (he:(l[j].name.toList==l[k].name.toList)=true):fuO l k=8 :=
 fuO_head h (by decide) (by
  unfold headE
  rw [if_neg (by rw [hi];simp),if_neg h8,← paE_0,hp,if_neg (by simp),if_pos (any_yes hj (by rw [nmsF_len];omega) (by rw [nmsF_get (by omega)];exact he))])
theorem fuO_any8 {l:List FuncD} {k:Nat} (h:k<l.length) (hi:identB l[k].name=true) (h8:¬ 8<l[k].params.length) (hp:paE l[k].params 0=0)
 (hs:decide (l[k].name.data.toList∈strs ((nmsF l).take k))=true):fuO l k=8 :=
 fuO_head h (by decide) (by
  unfold headE
  rw [if_neg (by rw [hi];simp),if_neg h8,← paE_0,hp,if_neg (by simp),if_pos (by rw [← strs_mem];exact hs)])
theorem fuO_nx {l:List FuncD} {k:Nat} (h:k<l.length) (hh:headE identB ((nmsF l).take k) l[k].name l[k].params=0):fuO l k=if errE l[k].body≠0 then errE l[k].body else fuO l (k+1):=by
 unfold fuO
 rw [funsO_step h,hh,if_neg (by simp),take_next (by rw [nmsF_len];exact h),nmsF_get h]
theorem fuO_go {l:List FuncD} {k:Nat} (h:k<l.length) (hi:identB l[k].name=true) (h8:¬ 8<l[k].params.length) (hp:paE l[k].params 0=0)
 (hn:∀ j (hj:j<k),(l[j].name.toList==l[k].name.toList)=false):fuO l k=if errE l[k].body≠0 then errE l[k].body else fuO l (k+1) :=
 fuO_nx h (by
  unfold headE
  rw [if_neg (by rw [hi];simp),if_neg h8,← paE_0,hp,if_neg (by simp),if_neg (by
   rw [any_no (fun j hl hjk=>by rw [nmsF_get (by rw [nmsF_len] at hl;exact hl)];exact hn j hjk)];simp)])
theorem fuO_anyG {l:List FuncD} {k:Nat} (h:k<l.length) (hi:identB l[k].name=true) (h8:¬ 8<l[k].params.length) (hp:paE l[k].params 0=0)
 (hs:decide (l[k].name.data.toList∈strs ((nmsF l).take k))=false):fuO l k=if errE l[k].body≠0 then errE l[k].body else fuO l (k+1) :=
 fuO_nx h (by
  unfold headE
  rw [if_neg (by rw [hi];simp),if_neg h8,← paE_0,hp,if_neg (by simp),if_neg (by rw [← strs_mem,hs];simp)])
def FnoR (l:List FuncD) (w:World) (e:Ending) (w':World):Prop:=∃ y:Int,e=.returned (.tuple #[.int .i64 y,.int .i64 (fnO l)])∧Below w.heap.size w w'
theorem fno_ret {l:List FuncD} {b y:Int} {w w':World} (h:fnO l=b) (hb:Below w.heap.size w w'):FnoR l w (.returned (.tuple #[.int .i64 y,.int .i64 b])) w':=by subst h;exact ⟨y,rfl,hb⟩
theorem int_ret {a b:Int} {w w':World} (h:a=b) (hb:Below w.heap.size w w'):IntB a w (.returned (.int .i64 b)) w':=by subst h;exact ⟨rfl,hb⟩
set_option maxRecDepth 100000 in
set_option maxHeartbeats 6400000 in
theorem funs_o (l:List FuncD) (a:Option Addr) (c:Nat) (w:World) (B N:Nat) (hN:N≤1073741824) (hB:B≤w.heap.size) (hA:FuncsAt w B N l a) :
 Calls Tryz.prog 77 #[.slice a l.length c,.int .i64 1,.int .i64 0,.bool true] w (FnoR l w):=by
 have HA:=Hd hA
 clear hA
 by_cases hbig:256<l.length
 ·have HR:=Hd (fnO_big hbig)
  go_enter Tryz.func77,Tryz.ntmps77
  go_wp2_with fail
  go_ret2
  exact fno_ret HR.out (Below.refl _ _)
 have H00:=Hd (fnO_0 hbig)
 go_enter Tryz.func77,Tryz.ntmps77
 go_wp2_with fail
 go_simp
 go_loopw [2,10] (fun sv i wr=>∃ (y:Int) (k:Nat),k≤l.length∧fnO l=fuO l k∧sv=.int .i64 y∧i=.int .i64 k∧Below w.heap.size w wr) (fun _ i _=>l.length-(intOf i).toNat)
 case atStart=>exact ⟨_,0,by omega,H00.out,rfl,rfl,Below.refl _ _⟩
 case round =>
  obtain ⟨w1,rfl⟩:∃ w1,w1=wr:=⟨wr,rfl⟩
  obtain ⟨y,k,hk,hfu,rfl,rfl,hbel⟩:=hrel
  have HB:=Hd hbel
  have HFU:=Hd hfu
  clear hbel hfu
  by_cases hlt:k<l.length
  case neg =>
   obtain rfl:k=l.length:=by omega
   have HR:=Hd (show fnO l=0 by rw [HFU.out,fuO_end])
   go_wp2_with fail
   go_ret2
   exact fno_ret HR.out HB.out
  obtain ⟨b,p,rfl,hb,hget⟩:=HA.out.get (by intro h;simp [h] at hlt)
  have hbw:=Hd (Nat.lt_of_lt_of_le hb hB)
  have hBr:=Hd (Nat.le_trans hB HB.out.size)
  have G:=Hd hget
  obtain ⟨fs,g1,g2⟩:=hget k hlt
  have HR:=Hd (g1.below HB.out hbw.out).range
  obtain ⟨pa,pc,es,gh⟩:=(g2.below (HB.out.mono hB)).has
  have f0:=gh.name
  have f1:=gh.params
  have hlf:=Hd (show (Tryz.prog.info? 72).map (·.size)=some fs.length by rw [gh.len];exact sizeFN)
  have hlf2:=Hd (show (Tryz.prog.info? 72).map (·.size)=some fs.toArray.size by rw [List.size_toArray,gh.len];exact sizeFN)
  have h19:=Hd (show 19=fs.toArray.size by rw [List.size_toArray,gh.len])
  have hone:=Hd (show fs.toArray.all (·.oneCell')=true from Go.all_oneCell_toArray gh.one)
  have hnm:=Hd (show (l[k]).name.size≤maxLen by have:=gh.hn;unfold maxLen;omega)
  have hpl:(l[k]).params.length≤N:=gh.hp
  have HP:=Hd gh.atPar
  have HE:=Hd gh.atBody
  have HBd:=Hd gh.body
  have FX:=Hd (box_at w1 fs 72)
  have HW:=Hd (show Below w.heap.size w (w1.alloc (.cells fs.toArray 72)) from belowThen HB.out (belowBox w1 _))
  have hwr:=Hd (show w1.heap.size<(w1.alloc (.cells fs.toArray 72)).heap.size by rw [World.size_alloc];omega)
  clear gh g1 g2 hget hb
  obtain ⟨ib,hib⟩:∃ v,identB (l[k]).name=v:=⟨_,rfl⟩
  have HI:=Hd hib
  clear hib
  go_wp2_with (first
   | (refine wpList_load_mid rfl 72 _ rfl b (p+k * 19) rfl fs _ HR.out Tryz.underlying72 rfl hlf.out ?_)
   | (refine wpList_store_new rfl 72 _ _ rfl _ fs.toArray rfl rfl hlf2.out h19.out hone.out ?_))
  refine (identR _ _ hnm.out).mono ?_
  rintro e w' ⟨rfl,rfl⟩
  rw [HI.out]
  cases ib
  case false =>
   have HZ:=Hd (show fnO l=16 by rw [HFU.out,fuO_16 hlt HI.out])
   go_wp2_with fail
   go_ret2
   exact fno_ret HZ.out HW.out
  by_cases h8:8<(l[k]).params.length
  ·have HZ:=Hd (show fnO l=10 by rw [HFU.out,fuO_10 hlt HI.out h8])
   go_wp2_with fail
   go_ret2
   exact fno_ret HZ.out HW.out
  have H8:=Hd (show ¬ 8<(l[k]).params.length from h8)
  go_wp2_with fail
  go_simp
  go_loopw [12] (fun i w2=>∃ (k2:Nat),k2≤(l[k]).params.length∧paE (l[k]).params 0=paE (l[k]).params k2∧i=.int .i64 k2∧Below (w1.alloc (.cells fs.toArray 72)).heap.size (w1.alloc (.cells fs.toArray 72)) w2) (fun i _=>(l[k]).params.length-(intOf i).toNat)
  case atStart=>exact ⟨0,by omega,rfl,rfl,Below.refl _ _⟩
  case round =>
   obtain ⟨w2,rfl⟩:∃ w2,w2=wr:=⟨wr,rfl⟩
   obtain ⟨k2,hk2,hpp,rfl,hb2⟩:=hrel
   have F2:=Hd (FX.out.below hb2 hwr.out)
   have B2:=Hd hb2
   have HPP:=Hd hpp
   clear hb2 hpp
   have d1:=F2.out.get0 f1
   by_cases hlt2:k2<(l[k]).params.length
   case pos =>
    obtain ⟨b2,p2,rfl,hp2,hpar⟩:=HP.out.get (by intro h;simp [h] at hlt2)
    have PB:=Hd (show Below B w1 w2 from ((belowThen (belowBox w1 _) B2.out).mono hBr.out))
    have GP:=Hd hpar
    have q0:=((hpar k2 hlt2).2.below PB.out hp2).get0' rfl
    have hn2:=Hd (show ((l[k]).params[k2]).name.size≤maxLen by have:=(hpar k2 hlt2).1;unfold maxLen;omega)
    clear hpar
    obtain ⟨pb,hpb⟩:∃ v,identB ((l[k]).params[k2]).name=v:=⟨_,rfl⟩
    have HPB:=Hd hpb
    clear hpb
    go_wp2_with fail
    refine (identR _ _ hn2.out).mono ?_
    rintro e w' ⟨rfl,rfl⟩
    rw [HPB.out]
    cases pb
    case false =>
     have HZ:=Hd (show fnO l=16 by rw [HFU.out,fuO_par hlt HI.out (by have:=H8.out;omega) (by decide) (HPP.out.trans (paE_16 hlt2 HPB.out))])
     go_wp2_with fail
     go_ret2
     exact fno_ret HZ.out (belowThen HW.out B2.out)
    go_wp2_with fail
    go_simp
    go_loopw [13] (fun i w3=>∃ (k3:Nat),k3≤k2∧i=.int .i64 k3∧Hid (∀ j (hj:j<k3) (hl:j<(l[k]).params.length),((l[k]).params[j].name.toList==(l[k]).params[k2].name.toList)=false)∧∃ q,w3=w2.drewN q) (fun i _=>k2-(intOf i).toNat)
    case atStart=>exact ⟨0,by omega,rfl,Hd fun j hj=>absurd hj (by omega),0,rfl⟩
    case round =>
     obtain ⟨k3,hk3,rfl,HNE,q,rfl⟩:=hrel
     by_cases hlt3:k3<k2
     case pos =>
      have hlt4:k3<(l[k]).params.length:=by omega
      have q1:=((GP.out k3 hlt4).2.below PB.out hp2).get0' rfl
      cases he:((l[k]).params[k3].name.toList==(l[k]).params[k2].name.toList)
      ·have HN3:=Hd (show ∀ j (hj:j<k3+1) (hl:j<(l[k]).params.length),((l[k]).params[j].name.toList==(l[k]).params[k2].name.toList)=false from fun j hj hl=>by
        by_cases hjk:j=k3
        ·subst hjk;exact he
        ·exact HNE.out j (by omega) hl)
       go_wp2_with fail
       go_quiet (fail)
       go_wp2_with fail
       go_roundw
       case rel=>exact ⟨k3+1,by omega,by go_num,HN3,_,rfl⟩
       case measure=>simp [intOf];omega
      ·have HZ:=Hd (show fnO l=8 by rw [HFU.out,fuO_par hlt HI.out (by have:=H8.out;omega) (by decide) (HPP.out.trans (paE_8 hlt2 HPB.out hlt3 he))])
       go_wp2_with fail
       go_quiet (fail)
       go_wp2_with fail
       go_ret2
       exact fno_ret HZ.out (belowThen (belowThen HW.out B2.out) (below_drewN' ⟨_,World.drewN_drewN _ _ _⟩))
     case neg =>
      have HPN:=Hd (HPP.out.trans (paE_next hlt2 HPB.out (fun j hj=>HNE.out j (by omega) (by omega))))
      go_wp2_with fail
      go_roundw
      case rel=>exact ⟨k2+1,by omega,HPN.out,by go_num,belowThen B2.out (below_drewN _ _)⟩
      case measure=>simp [intOf];omega
   case neg =>
    have HP0:=Hd (show paE (l[k]).params 0=0 by rw [HPP.out,show k2=(l[k]).params.length by omega,paE_end])
    have hw2:w1.heap.size<w2.heap.size:=Nat.lt_of_lt_of_le hwr.out B2.out.size
    have BB:=Hd (show Below w.heap.size w w2 from belowThen HW.out B2.out)
    have d0:=F2.out.get0 f0
    have FE:=Hd (F2.out.drop2 HBd.out)
    have HE2:=Hd (HE.out.below (show Below B w1 w2 from ((belowThen (belowBox w1 _) B2.out).mono hBr.out)))
    have hle:=Hd (show (Tryz.prog.info? 34).map (·.size)=some es.length by rw [HE.out.len];exact sizeE)
    go_wp2_with fail
    go_simp
    go_loopw [14] (fun i w3=>∃ (k4:Nat),k4≤k∧i=.int .i64 k4∧Hid (∀ j (hj:j<k4) (hl:j<l.length),(l[j].name.toList==l[k].name.toList)=false)∧∃ q,w3=w2.drewN q) (fun i _=>k-(intOf i).toNat)
    case atStart=>exact ⟨0,by omega,rfl,Hd fun j hj=>absurd hj (by omega),0,rfl⟩
    case round =>
     obtain ⟨k4,hk4,rfl,HNE,q,rfl⟩:=hrel
     by_cases hlt4:k4<k
     case pos =>
      have hlt5:k4<l.length:=by omega
      obtain ⟨fs4,g1,g2⟩:=G.out k4 hlt5
      obtain ⟨_,_,_,gh⟩:=g2.has
      have q1:=(g1.below BB.out hbw.out).get0' gh.name
      clear gh g1 g2
      cases he:(l[k4].name.toList==l[k].name.toList)
      ·have HN4:=Hd (show ∀ j (hj:j<k4+1) (hl:j<l.length),(l[j].name.toList==l[k].name.toList)=false from fun j hj hl=>by
        by_cases hjk:j=k4
        ·subst hjk;exact he
        ·exact HNE.out j (by omega) hl)
       go_wp2_with fail
       go_quiet (fail)
       go_wp2_with fail
       go_roundw
       case rel=>exact ⟨k4+1,by omega,by go_num,HN4,_,rfl⟩
       case measure=>simp [intOf];omega
      ·have HZ:=Hd (show fnO l=8 by rw [HFU.out,fuO_8 hlt HI.out (by have:=H8.out;omega) HP0.out hlt4 he])
       go_wp2_with fail
       go_quiet (fail)
       go_wp2_with fail
       go_ret2
       exact fno_ret HZ.out (belowThen BB.out (below_drewN' ⟨_,World.drewN_drewN _ _ _⟩))
     case neg =>
      have HGO:=Hd (HFU.out.trans (fuO_go hlt HI.out (by have:=H8.out;omega) HP0.out (fun j hj=>HNE.out j (by omega) (by omega))))
      have HR2:=Hd (FE.out.below (below_drewN w2 q) hw2).range
      have hBw:B≤w2.heap.size:=Nat.le_trans hB BB.out.size
      have HE3:=Hd (HE2.out.below ((below_drewN w2 q).mono hBw))
      have BBq:=Hd (belowThen BB.out (below_drewN w2 q))
      obtain ⟨y6,z6,h6⟩:∃ a b,lkE 48 (l[k]).body 0=(a,b):=⟨_,_,rfl⟩
      have H6:=Hd h6
      have HZ6:=Hd (show errE (l[k]).body=z6 by unfold errE;rw [h6])
      rw [HZ6.out] at HGO
      clear h6
      go_wp2_with (refine wpList_load_mid rfl 34 _ rfl w1.heap.size 2 rfl es _ HR2.out Tryz.underlying34 rfl hle.out ?_)
      refine (look_all 48 (l[k]).body _ B N es 1 0 (by decide) (by decide) (by decide) hN (Nat.le_trans hB BBq.out.size) HE3.out).mono ?_
      rintro e6 w6 ⟨rfl,hb6⟩
      rw [H6.out]
      have HB6:=Hd (belowThen BBq.out hb6)
      clear hb6
      by_cases hz:z6=0
      ·subst hz
       have HZ:=Hd (show fnO l=fuO l (k+1) by rw [HGO.out,if_neg (by simp)])
       go_wp2_with fail
       go_roundw
       case rel=>exact ⟨y6,k+1,by omega,HZ.out,rfl,by go_num,HB6.out⟩
       case measure=>simp [intOf];omega
      ·have HZ:=Hd (show fnO l=z6 by rw [HGO.out,if_pos hz])
       have hz1:(z6 != 0)=true:=by simpa using hz
       have hz2:(z6==0)=false:=by simpa using hz
       go_wp2_with fail
       go_ret2
       exact fno_ret HZ.out HB6.out
set_option maxRecDepth 100000 in
set_option maxHeartbeats 6400000 in
theorem functions_c (l:List FuncD) (a:Option Addr) (c:Nat) (w:World) (B N:Nat) (hN:N≤1073741824) (h4:4≤B) (hB:B≤w.heap.size) (hE:Env w) (hsf:smlF l) (hA:FuncsAt w B N l a) :
 Calls Tryz.prog 73 #[.slice a l.length c,.func (.func 21) #[] #[]] w (IntB (fnO l) w):=by
 have HE0:=Hd hE
 have HS:=Hd hsf
 have HA:=Hd hA
 clear hE hsf hA
 by_cases hbig:256<l.length
 ·have HR:=Hd (fnO_big hbig)
  go_enter Tryz.func73,Tryz.ntmps73
  go_wp2_with fail
  go_ret
  exact int_ret HR.out (Below.refl _ _)
 have H00:=Hd (fnO_0 hbig)
 have hmm:=@run_makeMap Tryz.prog
 go_enter Tryz.func73,Tryz.ntmps73
 go_wp2_with fail
 clear hmm
 go_simp
 go_loopw [18] (fun i wr=>∃ k:Nat,k≤l.length∧i=.int .i64 k∧Hid (fnO l=fuO l k)∧Hid (Below w.heap.size w wr)∧Hid (SetAt wr 9 4 w.heap.size k (strs ((nmsF l).take k)))∧Hid (w.heap.size<wr.heap.size)) (fun i _=>l.length-(intOf i).toNat)
 case atStart=>exact ⟨0,by omega,rfl,H00,Hd (belowBox w _),Hd (SetAt.made w 9 4),Hd (by rw [World.size_alloc];omega)⟩
 case round =>
  obtain ⟨w1,rfl⟩:∃ w1,w1=wr:=⟨wr,rfl⟩
  obtain ⟨k,hk,rfl,HFU,HF,HSET,HSZ⟩:=hrel
  by_cases hlt:k<l.length
  case neg =>
   obtain rfl:k=l.length:=by omega
   have HR:=Hd (show fnO l=0 by rw [HFU.out,fuO_end])
   go_wp2_with fail
   go_ret
   exact int_ret HR.out HF.out
  obtain ⟨b,p,rfl,hb,hget⟩:=HA.out.get (by intro h;simp [h] at hlt)
  obtain ⟨fs,g1,g2⟩:=hget k hlt
  have HBw:=Hd (HF.out.mono hB)
  have HR:=Hd (g1.below HBw.out hb).range
  obtain ⟨pa,pc,es,gh⟩:=g2.has
  have f0:=gh.name
  have f1:=gh.params
  have hlf:=Hd (show (Tryz.prog.info? 72).map (·.size)=some fs.length by rw [gh.len];exact sizeFN)
  have hlf2:=Hd (show (Tryz.prog.info? 72).map (·.size)=some fs.toArray.size by rw [List.size_toArray,gh.len];exact sizeFN)
  have h19:=Hd (show 19=fs.toArray.size by rw [List.size_toArray,gh.len])
  have hone:=Hd (show fs.toArray.all (·.oneCell')=true from Go.all_oneCell_toArray gh.one)
  have hnm:=Hd (show (l[k]).name.size≤maxLen by have:=gh.hn;unfold maxLen;omega)
  have hpl:(l[k]).params.length≤N:=gh.hp
  have HP:=Hd gh.atPar
  have HE:=Hd gh.atBody
  have HBd:=Hd gh.body
  have FX:=Hd (box_at w1 fs 72)
  have HW:=Hd (show Below w.heap.size w (w1.alloc (.cells fs.toArray 72)) from belowThen HF.out (belowBox w1 _))
  have HEW:=Hd (HE0.out.then HW.out)
  have HSW:=Hd (HSET.out.later (belowBox w1 (.cells fs.toArray 72)))
  have hwr:=Hd (show w1.heap.size<(w1.alloc (.cells fs.toArray 72)).heap.size by rw [World.size_alloc];omega)
  have HBS:=Hd (smlF_get HS.out k hlt)
  clear gh g1 g2 hget
  obtain ⟨ib,hib⟩:∃ v,identB (l[k]).name=v:=⟨_,rfl⟩
  have HI:=Hd hib
  clear hib
  go_wp2_with (first
   | (refine wpList_load_mid rfl 72 _ rfl b (p+k * 19) rfl fs _ HR.out Tryz.underlying72 rfl hlf.out ?_)
   | (refine wpList_store_new rfl 72 _ _ rfl _ fs.toArray rfl rfl hlf2.out h19.out hone.out ?_))
  refine (identP _ _ hnm.out HEW.out.kw).mono ?_
  rintro e w' ⟨rfl,rfl⟩
  rw [HI.out]
  cases ib
  case false =>
   have HZ:=Hd (show fnO l=16 by rw [HFU.out,fuO_16 hlt HI.out])
   go_wp2_with fail
   go_ret
   exact int_ret HZ.out HW.out
  by_cases h8:8<(l[k]).params.length
  ·have HZ:=Hd (show fnO l=10 by rw [HFU.out,fuO_10 hlt HI.out h8])
   go_wp2_with fail
   go_ret
   exact int_ret HZ.out HW.out
  have H8:=Hd (show ¬ 8<(l[k]).params.length from h8)
  have hmm:=@run_makeMap Tryz.prog
  go_wp2_with fail
  clear hmm
  go_simp
  go_loopw [34] (fun i w2=>∃ (k2:Nat),k2≤(l[k]).params.length∧i=.int .i64 k2∧Hid (paE (l[k]).params 0=paE (l[k]).params k2)∧Hid (Below (w1.alloc (.cells fs.toArray 72)).heap.size (w1.alloc (.cells fs.toArray 72)) w2)∧Hid (SetAt w2 9 4 (w1.heap.size+1) k2 (strs ((nmsP (l[k]).params).take k2)))∧Hid ((w1.alloc (.cells fs.toArray 72)).heap.size<w2.heap.size)) (fun i _=>(l[k]).params.length-(intOf i).toNat)
  case atStart=>exact ⟨0,by omega,rfl,Hd rfl,Hd (belowBox _ _),Hd (by have h:=SetAt.made (w1.alloc (.cells fs.toArray 72)) 9 4;rw [World.size_alloc] at h;exact h),Hd (by simp only [World.size_alloc];omega)⟩
  case round =>
   obtain ⟨w2,rfl⟩:∃ w2,w2=wr:=⟨wr,rfl⟩
   obtain ⟨k2,hk2,rfl,HPP,HB2,HSP,HS2⟩:=hrel
   have F2:=Hd (FX.out.below HB2.out hwr.out)
   by_cases hlt2:k2<(l[k]).params.length
   case pos =>
    obtain ⟨b2,p2,rfl,hp2,hpar⟩:=HP.out.get (by intro h;simp [h] at hlt2)
    have HBv:=Hd (show Below B w w2 from (belowThen HW.out HB2.out).mono hB)
    obtain ⟨ps,hps⟩:∃ ps,ps=((l[k]).params[k2]).cells:=⟨_,rfl⟩
    have q0:ps[0]?=some (.string ((l[k]).params[k2]).name):=by rw [hps];rfl
    have hpl2:ps.length=2:=by rw [hps];rfl
    have hpone:=Hd (show ps.toArray.all (·.oneCell')=true from Go.all_oneCell_toArray (fun u hu=>by
     rw [hps] at hu
     simp only [ParD.cells,List.mem_cons,List.mem_nil_iff,or_false] at hu
     rcases hu with rfl | rfl<;>rfl))
    have HR2:=Hd (show CellsAt w2 b2 (p2+k2 * 2) ps by rw [hps];exact (hpar k2 hlt2).2.below HBv.out hp2).range
    have hn2:=Hd (show ((l[k]).params[k2]).name.size≤maxLen by have:=(hpar k2 hlt2).1;unfold maxLen;omega)
    have hlp:=Hd (show (Tryz.prog.info? 120).map (·.size)=some ps.length by rw [hpl2];exact sizePAR)
    have hlp2:=Hd (show (Tryz.prog.info? 120).map (·.size)=some ps.toArray.size by rw [List.size_toArray,hpl2];exact sizePAR)
    have h2s:=Hd (show 2=ps.toArray.size by rw [List.size_toArray,hpl2])
    have PX:=Hd (box_at w2 ps 120)
    have HBX:=Hd (belowThen HB2.out (belowBox w2 (.cells ps.toArray 120)))
    have HSPX:=Hd (HSP.out.later (belowBox w2 (.cells ps.toArray 120)))
    have HEX:=Hd ((HEW.out.then HB2.out).then (belowBox w2 (.cells ps.toArray 120)))
    have HWX:=Hd (belowThen HW.out HBX.out)
    have e0:=PX.out.get0 q0
    clear hpar hps
    obtain ⟨pn,hpn⟩:∃ s,((l[k]).params[k2]).name=s:=⟨_,rfl⟩
    have HPN:=Hd hpn
    rw [hpn] at e0 hn2 q0
    obtain ⟨v2,hv2⟩:∃ v,identB pn=v:=⟨_,rfl⟩
    have HV2:=Hd hv2
    clear hpn hv2
    go_wp2_with (first
     | (refine wpList_load_mid rfl 120 _ rfl b2 (p2+k2 * 2) rfl ps _ HR2.out Tryz.underlying120 rfl hlp.out ?_)
     | (refine wpList_store_new rfl 120 _ _ rfl _ ps.toArray rfl rfl hlp2.out h2s.out hpone.out ?_))
    refine (identP pn _ hn2.out HEX.out.kw).mono ?_
    rintro e w' ⟨rfl,rfl⟩
    rw [HV2.out]
    cases v2
    case false =>
     have HZ:=Hd (show fnO l=16 by rw [HFU.out,fuO_par hlt HI.out H8.out (by decide) (HPP.out.trans (paE_16 hlt2 (by rw [HPN.out];exact HV2.out)))])
     go_wp2_with fail
     go_ret
     exact int_ret HZ.out HWX.out
    obtain ⟨sb,hsb⟩:∃ v,decide (pn.data.toList∈strs ((nmsP (l[k]).params).take k2))=v:=⟨_,rfl⟩
    have HSB:=Hd hsb
    have HID:=Hd (show identB ((l[k]).params[k2]).name=true by rw [HPN.out];exact HV2.out)
    clear hsb
    cases sb
    case true =>
     have HZ:=Hd (show fnO l=8 by rw [HFU.out,fuO_par hlt HI.out H8.out (by decide) (HPP.out.trans (paE_any8 hlt2 HID.out (by rw [HPN.out];exact HSB.out)))])
     go_wp2_with (at_lookup;refine wpList_look_set rfl _ _ 141 rfl Tryz.underlying9 Tryz.underlying4 Tryz.underlying141 (zeroBool _) rfl HSPX.out pn rfl hn2.out true HSB.out ?_)
     go_ret
     exact int_ret HZ.out HWX.out
    have HPN2:=Hd (HPP.out.trans (paE_anyN hlt2 HID.out (by rw [HPN.out];exact HSB.out)))
    have HSN:=Hd (show strs ((nmsP (l[k]).params).take (k2+1))=strs ((nmsP (l[k]).params).take k2)++[pn.data.toList] by
     rw [strs_next (by rw [nmsP_len];exact hlt2),nmsP_get hlt2,HPN.out])
    go_wp2_with (first
     | (at_lookup;refine wpList_look_set rfl _ _ 141 rfl Tryz.underlying9 Tryz.underlying4 Tryz.underlying141 (zeroBool _) rfl HSPX.out pn rfl hn2.out false HSB.out ?_)
     | (at_mapUpdate;refine wpList_put_set rfl _ _ _ 141 rfl Tryz.underlying9 Tryz.underlying4 Tryz.underlying141 rfl HSPX.out (by unfold maxLen;omega) pn rfl rfl hn2.out ?_))
    intro w3 hset hgrow
    have HS3:=Hd hset
    have HB3:=Hd (show Below (w1.alloc (.cells fs.toArray 72)).heap.size (w1.alloc (.cells fs.toArray 72)) w3 from HBX.out.grown hgrow HBX.out.size (fun q hq=>by cases hq;rw [World.size_alloc];omega))
    have hs3:=Hd (show (w1.alloc (.cells fs.toArray 72)).heap.size<w3.heap.size from Nat.lt_of_lt_of_le HS2.out (Nat.le_trans (by rw [World.size_alloc];omega) hgrow.size))
    clear hset hgrow e0
    go_wp2
    go_roundw
    case rel=>exact ⟨k2+1,by omega,by go_num,HPN2,HB3,Hd (by rw [HSN.out];exact HS3.out),hs3⟩
    case measure=>simp [intOf];omega
   case neg =>
    have HP0:=Hd (show paE (l[k]).params 0=0 by rw [HPP.out,show k2=(l[k]).params.length by omega,paE_end])
    have HSS:=Hd (HSW.out.later HB2.out)
    have HW2:=Hd (belowThen HW.out HB2.out)
    have e0:=F2.out.get0 f0
    obtain ⟨fn,hfn⟩:∃ s,(l[k]).name=s:=⟨_,rfl⟩
    have HFN:=Hd hfn
    rw [hfn] at e0 hnm
    obtain ⟨sb,hsb⟩:∃ v,decide (fn.data.toList∈strs ((nmsF l).take k))=v:=⟨_,rfl⟩
    have HSB:=Hd hsb
    clear hsb hfn
    cases sb
    case true =>
     have HZ:=Hd (show fnO l=8 by rw [HFU.out,fuO_any8 hlt HI.out H8.out HP0.out (by rw [HFN.out];exact HSB.out)])
     go_wp2_with (at_lookup;refine wpList_look_set rfl _ _ 141 rfl Tryz.underlying9 Tryz.underlying4 Tryz.underlying141 (zeroBool _) rfl HSS.out fn rfl hnm.out true HSB.out ?_)
     go_ret
     exact int_ret HZ.out HW2.out
    have HGO:=Hd (HFU.out.trans (fuO_anyG hlt HI.out H8.out HP0.out (by rw [HFN.out];exact HSB.out)))
    have HSN:=Hd (show strs ((nmsF l).take (k+1))=strs ((nmsF l).take k)++[fn.data.toList] by
     rw [strs_next (by rw [nmsF_len];exact hlt),nmsF_get hlt,HFN.out])
    have FE:=Hd (F2.out.drop2 HBd.out)
    have hle:=Hd (show (Tryz.prog.info? 34).map (·.size)=some es.length by rw [HE.out.len];exact sizeE)
    obtain ⟨z6,h6⟩:∃ b,errE (l[k]).body=b:=⟨_,rfl⟩
    rw [h6] at HGO
    have H6:=Hd h6
    clear h6
    have hw2l:=Hd (show w1.heap.size<w2.heap.size from Nat.lt_of_lt_of_le hwr.out HB2.out.size)
    go_wp2_with (first
     | (at_lookup;refine wpList_look_set rfl _ _ 141 rfl Tryz.underlying9 Tryz.underlying4 Tryz.underlying141 (zeroBool _) rfl HSS.out fn rfl hnm.out false HSB.out ?_)
     | (at_mapUpdate;refine wpList_put_set rfl _ _ _ 141 rfl Tryz.underlying9 Tryz.underlying4 Tryz.underlying141 rfl HSS.out (by unfold maxLen;omega) fn rfl rfl hnm.out ?_))
    intro w3 hset hgrow
    have HS3:=Hd hset
    have HF3:=Hd (show Below w.heap.size w w3 from HW2.out.grown hgrow HW2.out.size (fun q hq=>by cases hq;exact Nat.le_refl _))
    have HR3:=Hd (show CellsAt w3 w1.heap.size 2 es from (FB.of_grown hgrow).cells FE.out hw2l.out (Nat.ne_of_gt HSZ.out)).range
    have hs3:=Hd (Nat.lt_of_lt_of_le HSZ.out (Nat.le_trans (Nat.le_of_lt hw2l.out) hgrow.size))
    clear hset hgrow e0
    go_wp2_with (refine wpList_load_mid rfl 34 _ rfl w1.heap.size 2 rfl es _ HR3.out Tryz.underlying34 rfl hle.out ?_)
    have hb3:Below B w w3:=HF3.out.mono hB
    refine (check_p (l[k]).body w3 B N es hN h4 (Nat.le_trans hB HF3.out.size) (HE0.out.then HF3.out) HBS.out (HE.out.below hb3)).mono ?_
    clear hb3
    rw [H6.out]
    rintro e6 w6 ⟨rfl,hf6⟩
    have HF6:=Hd (belowThen HF3.out hf6)
    have HS6:=Hd (HS3.out.later hf6)
    have hs6:=Hd (Nat.lt_of_lt_of_le hs3.out hf6.size)
    clear hf6
    by_cases hz:z6=0
    ·subst hz
     have HZ:=Hd (show fnO l=fuO l (k+1) by rw [HGO.out,if_neg (by simp)])
     go_wp2_with fail
     go_roundw
     case rel=>exact ⟨k+1,by omega,by go_num,HZ,HF6,Hd (by rw [HSN.out];exact HS6.out),hs6⟩
     case measure=>simp [intOf];omega
    ·have HZ:=Hd (show fnO l=z6 by rw [HGO.out,if_pos hz])
     have hz1:(z6 != 0)=true:=by simpa using hz
     have hz2:(z6==0)=false:=by simpa using hz
     go_wp2_with fail
     go_ret
     exact int_ret HZ.out HF6.out
end Go.Proofs.YtiefeajappjnbaaGreatDoor
