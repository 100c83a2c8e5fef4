/- ModuleText: the program's (the first part of Mtx36). -/
import Derived.Test.YtiefeajappjnbaaGreatDoorGA
import Derived.Test.YtiefeajappjnbaaGreatDoorMck36
import Derived.Test.YtiefeajappjnbaaGreatDoorShs36
import Derived.Test.YtiefeajappjnbaaGreatDoorMD
namespace Go.Proofs.YtiefeajappjnbaaGreatDoor
open Go.RowKit
def impT (i:ByteArray×ByteArray):ByteArray:=⟨#[105,109,112,111,114,116,32]⟩++i.1++(if i.2.size=0 then ⟨#[]⟩ else ⟨#[32,97,115,32]⟩++i.2)++⟨#[59,10]⟩
def impsT:List (ByteArray×ByteArray)→ByteArray
 | []=>⟨#[]⟩
 | x::r=>impT x++impsT r
def defsM (f:ExprD→ByteArray):List FuncD→ByteArray
 | []=>⟨#[]⟩
 | x::r=>defS f x++⟨#[10]⟩++defsM f r
def mainT (f:ExprD→ByteArray) (e:ExprD):ByteArray:=if absB e=true then ⟨#[]⟩ else bodyS f e++⟨#[10]⟩
def modT (m:ModD):ByteArray:=if modE m=0 then impsT m.imps++defsM (showS 47) m.funcs++mainT (showS 47) m.main else ⟨#[]⟩
def ModR (m:ModD) (w:World) (e:Ending) (w':World):Prop:=e=.returned (.tuple #[.string (modT m),.int .i64 (modE m)])∧Below w.heap.size w w'
theorem nil_app (a:ByteArray):(⟨#[]⟩:ByteArray)++a=a:=by
 apply ByteArray.ext
 simp
theorem app_nil (a:ByteArray):a++(⟨#[]⟩:ByteArray)=a:=by
 apply ByteArray.ext
 simp
theorem impsT_app:∀ a b:List (ByteArray×ByteArray),impsT (a++b)=impsT a++impsT b
 | [],b=>by simp only [List.nil_append,impsT,nil_app]
 | x::r,b=>by
   simp only [List.cons_append,impsT,impsT_app r b,ByteArray.append_assoc]
theorem impsT_step {l:List (ByteArray×ByteArray)} {k:Nat} (h:k<l.length):impsT (l.take (k+1))=impsT (l.take k)++impT l[k]:=by
 rw [List.take_succ_eq_append_getElem h,impsT_app]
 simp only [impsT,app_nil]
theorem defsM_app (f:ExprD→ByteArray):∀ a b:List FuncD,defsM f (a++b)=defsM f a++defsM f b
 | [],b=>by simp only [List.nil_append,defsM,nil_app]
 | x::r,b=>by
   simp only [List.cons_append,defsM,defsM_app f r b,ByteArray.append_assoc]
theorem defsM_step (f:ExprD→ByteArray) {l:List FuncD} {k:Nat} (h:k<l.length):defsM f (l.take (k+1))=defsM f (l.take k)++(defS f l[k]++⟨#[10]⟩):=by
 rw [List.take_succ_eq_append_getElem h,defsM_app]
 simp only [defsM,app_nil]
theorem impT_size {i:ByteArray×ByteArray} (h:impB i=true):(impT i).size≤200∧i.1.size≤64∧i.2.size≤64:=by
 unfold impB at h
 rw [Bool.and_eq_true,Bool.or_eq_true] at h
 have h1:=ident_size h.1
 have h2:i.2.size≤64:=by
  rcases h.2 with h2 | h2
  ·have:=of_decide_eq_true h2;omega
  ·exact ident_size h2
 refine ⟨?_,h1,h2⟩
 unfold impT
 split
 all_goals
  simp only [ByteArray.size_append,szl,List.size_toArray,List.length_cons,List.length_nil]
  omega
theorem impsT_size:∀ {l:List (ByteArray×ByteArray)},(∀ x∈l,impB x=true)→(impsT l).size≤l.length * 200
 | [],_=>Nat.zero_le _
 | x::r,h=>by
   have h1:=(impT_size (h x (List.mem_cons_self))).1
   have h2:=impsT_size (l:=r) (fun y hy=>h y (List.mem_cons_of_mem _ hy))
   simp only [impsT,ByteArray.size_append,List.length_cons,Nat.add_mul,Nat.one_mul]
   omega
theorem defS_size {f:ExprD→ByteArray} {x:FuncD} (h:x.params.length≤8∧x.name.size≤64∧∀ p∈x.params,p.name.size≤64) (hf:(f x.body).size≤274877906944):(defS f x).size≤274877910000:=by
 have h1:=headS_size 64 (8 * (64+3)) (Nat.le_refl _) x h.2.1 h.1 h.2.2
 unfold defS
 simp only [ByteArray.size_append,szl,List.size_toArray,List.length_cons,List.length_nil]
 omega
theorem defsM_size {f:ExprD→ByteArray}:∀ {l:List FuncD},(∀ x∈l,(defS f x).size≤274877910000)→(defsM f l).size≤l.length * 274877910001
 | [],_=>Nat.zero_le _
 | x::r,h=>by
   have h1:=h x (List.mem_cons_self)
   have h2:=defsM_size (f:=f) (l:=r) (fun y hy=>h y (List.mem_cons_of_mem _ hy))
   simp only [defsM,ByteArray.size_append,szl,List.size_toArray,List.length_cons,List.length_nil,Nat.add_mul,Nat.one_mul]
   omega
theorem mod_ret {m:ModD} {s:ByteArray} {z:Int} {w w':World} (h:modT m=s) (h2:modE m=z) (hb:Below w.heap.size w w'):ModR m w (.returned (.tuple #[.string s,.int .i64 z])) w':=by subst h;subst h2;exact ⟨rfl,hb⟩
theorem modT_0 {m:ModD} (h:modE m=0):modT m=impsT m.imps++defsM (showS 47) m.funcs++mainT (showS 47) m.main:=if_pos h
theorem body_fit {w:World} {B N:Nat} (hN:N≤1048576) {l:List FuncD} {a:Option Addr} (hA:FuncsAt w B N l a) (h:∀ u∈l,errE u.body=0):∀ u∈l,(showS 47 u.body).size≤274877906944:=fun u hu=>by
 obtain ⟨i,hi,rfl⟩:=List.getElem_of_mem hu
 obtain ⟨b,o,_,_,hget⟩:=hA.get (by intro h;simp [h] at hi)
 obtain ⟨fs,_,hF⟩:=hget i hi
 obtain ⟨pa,pc,es,hF⟩:=hF.has
 have h0:=h _ hu
 exact show_fit hN (err_sh h0) (err_size h0).2 hF.atBody
set_option maxRecDepth 100000 in
set_option maxHeartbeats 12800000 in
theorem mtext_p (m:ModD) (w:World) (B N:Nat) (cs:List Value) (hN:N≤1048576) (h4:4≤B) (hB:B≤w.heap.size) (hE:Env w) (hsf:smlF m.funcs) (hsm:absB m.main=false→smlE m.main) (hm:ModD.At w B N m cs):Calls Tryz.prog 10 #[.agg cs.toArray] w (ModR m w):=by
 have HM:=Hd hm
 have HE:=Hd hE
 have HSF:=Hd hsf
 have HSM:=Hd hsm
 have hlm:=Hd (show (Tryz.prog.info? 44).map (·.size)=some cs.length by rw [hm.len];exact sizeMOD)
 obtain ⟨ia,fa,ic,fc,es,hh⟩:=hm
 obtain ⟨l,hl⟩:∃ l,m.imps=l:=⟨_,rfl⟩
 have HL:=Hd hl
 obtain ⟨fs,hfs⟩:∃ fs,m.funcs=fs:=⟨_,rfl⟩
 have HFS:=Hd hfs
 have HC1:=Hd (show cs[1]?=some (.slice ia l.length ic) by rw [hh.cs,← hl];rfl)
 have HC2:=Hd (show cs[2]?=some (.slice fa fs.length fc) by rw [hh.cs,← hfs];rfl)
 have HES:=Hd hh.main
 have HIA:=Hd (show ImpsAt w B N l ia by rw [← hl];exact hh.atImp)
 have HFA:=Hd (show FuncsAt w B N fs fa by rw [← hfs];exact hh.atFun)
 have HMA:=Hd hh.atMain
 have hle:=Hd (show (Tryz.prog.info? 34).map (·.size)=some es.length by rw [hh.atMain.len];kernel_rfl)
 have R0:=Hd (RowT.new w 44 cs)
 have H0:=Hd (belowBox w (.cells cs.toArray 44))
 obtain ⟨z,hz⟩:∃ z,modE m=z:=⟨_,rfl⟩
 have HZ:=Hd hz
 clear hE hh hl hfs hz hsf hsm
 go_enter Tryz.func10,Tryz.ntmps10
 go_wp2_with ((with_reducible show wpList _ _ _ (⟨some 10,_,_,_,_,_⟩::_) _ _);refine wpList_load_mid rfl 44 _ rfl w.heap.size 0 rfl cs _ R0.out.range Tryz.underlying44 rfl hlm.out ?_)
 refine (module_p m _ B N cs hN h4 (Nat.le_trans hB H0.out.size) (HE.out.then H0.out) HSF.out HSM.out (HM.out.below (H0.out.mono hB))).mono ?_
 rw [HZ.out]
 rintro e w0 ⟨rfl,hb0⟩
 have HB0:=Hd (belowThen H0.out hb0)
 have R1:=Hd (R0.out.then hb0)
 clear hb0
 by_cases h0:z=0
 case neg =>
  have HT:=Hd (show modT m=⟨#[]⟩ from if_neg (by rw [HZ.out];exact h0))
  have n1:(z==0)=false:=by simpa using h0
  have n2:(z != 0)=true:=by simpa using h0
  clear h0
  go_wp2_with fail
  go_ret2
  exact mod_ret HT.out HZ.out HB0.out
 subst h0
 obtain ⟨_,hi16,hia,hf0,hmn⟩:=modE_0 HZ.out
 rw [HL.out] at hi16 hia
 rw [HFS.out] at hf0
 obtain ⟨hf256,hfu⟩:=fnO_0' hf0
 have HIB:=Hd (List.all_eq_true.1 hia)
 have HFU:=Hd hfu
 have HMN:=Hd hmn
 have HFT:=Hd (body_fit hN HFA.out (fun u hu=>(HFU.out u hu).2.1))
 have HT:=Hd (show modT m=impsT l++defsM (showS 47) fs++mainT (showS 47) m.main by rw [modT_0 HZ.out,HL.out,HFS.out])
 have zis:∀ k,(impsT (l.take k)).size≤3200:=fun k=>by
  have h1:=impsT_size (l:=l.take k) (fun x hx=>HIB.out x (List.mem_of_mem_take hx))
  have h2:(l.take k).length * 200≤16 * 200:=Nat.mul_le_mul_right _ (by rw [List.length_take];omega)
  omega
 have zds:∀ k,(defsM (showS 47) (fs.take k)).size≤70368744960256:=fun k=>by
  have h1:=defsM_size (f:=showS 47) (l:=fs.take k) (fun x hx=>defS_size ⟨(HFU.out x (List.mem_of_mem_take hx)).1,(HFU.out x (List.mem_of_mem_take hx)).2.2⟩ (HFT.out x (List.mem_of_mem_take hx)))
  have h2:(fs.take k).length * 274877910001≤256 * 274877910001:=Nat.mul_le_mul_right _ (by rw [List.length_take];omega)
  omega
 have ZIS:=Hd zis
 have ZDS:=Hd zds
 clear hia hf0 hfu hmn zis zds
 have e1:=R1.out.cell HC1.out
 have e2:=R1.out.cell HC2.out
 go_wp2_with fail
 go_simp
 go_loopw [5,18] (fun v i wr=>∃ (k:Nat) (t:ByteArray),k≤l.length∧i=.int .i64 k∧v=.string t∧Hid (t=impsT (l.take k))∧Hid (RowT 44 wr w.heap.size cs)∧Hid (Below w.heap.size w wr)) (fun _ i _=>l.length-(intOf i).toNat)
 case atStart=>exact ⟨0,_,by omega,rfl,rfl,Hd rfl,R1,HB0⟩
 case round =>
  clear e1 e2 R0 R1
  obtain ⟨w1,rfl⟩:∃ w1,w1=wr:=⟨wr,rfl⟩
  obtain ⟨k,t,hk,rfl,rfl,HTT,HRr,HBr⟩:=hrel
  have e1:=HRr.out.cell HC1.out
  have e2:=HRr.out.cell HC2.out
  have zt:t.size≤3200:=by rw [HTT.out];exact ZIS.out k
  by_cases hlt:k<l.length
  case pos =>
   obtain ⟨b,o,rfl,hb,hget⟩:=HIA.out.get (by intro h;rw [h] at hlt;simp at hlt)
   obtain ⟨_,g1⟩:=hget k hlt
   obtain ⟨_,y1,y2⟩:=impT_size (HIB.out _ (List.getElem_mem hlt))
   obtain ⟨p,hp⟩:∃ p,l[k]=p:=⟨_,rfl⟩
   have HSTP:=Hd (show impsT (l.take (k+1))=t++impT p by rw [impsT_step hlt,← HTT.out,hp])
   rw [hp] at g1 y1 y2
   obtain ⟨i1,i2⟩:=p
   replace y1:i1.size≤64:=y1
   replace y2:i2.size≤64:=y2
   have HG:=Hd (g1.below (HBr.out.mono hB) hb)
   have hl1:=Hd (show (Tryz.prog.info? 78).map (·.size)=some (impC (i1,i2)).length by kernel_rfl)
   have hl2:=Hd (show (Tryz.prog.info? 78).map (·.size)=some (impC (i1,i2)).toArray.size by kernel_rfl)
   have h2:=Hd (show 2=(impC (i1,i2)).toArray.size by rfl)
   have hone:=Hd (show (impC (i1,i2)).toArray.all (·.oneCell')=true from Go.all_oneCell_toArray (by intro u hu;simp [impC] at hu;rcases hu with rfl | rfl<;>rfl))
   have HB1:=Hd (show Below w.heap.size w (w1.alloc (.cells (impC (i1,i2)).toArray 78)) from belowThen HBr.out (belowBox w1 _))
   have HR1:=Hd (HRr.out.alloc (.cells (impC (i1,i2)).toArray 78))
   have HBX:=Hd (RowT.new w1 78 (impC (i1,i2)))
   have d0:=HBX.out.cell (j:=0) (v:=.string i1) rfl
   have d1:=HBX.out.cell (j:=1) (v:=.string i2) rfl
   clear g1 hget hp
   have s1:(⟨#[105,109,112,111,114,116,32]⟩:ByteArray).size+(i1:ByteArray).size≤9223372036854775807:=by simp only [szl,List.size_toArray,List.length_cons,List.length_nil];omega
   have s2:t.size+(⟨#[105,109,112,111,114,116,32]⟩++i1:ByteArray).size≤9223372036854775807:=by (repeat rw [ByteArray.size_append]);simp only [szl,List.size_toArray,List.length_cons,List.length_nil];omega
   by_cases he:i2.toList=[]
   ·have HTN:=Hd (show impsT (l.take (k+1))=t++(⟨#[105,109,112,111,114,116,32]⟩++i1)++⟨#[59,10]⟩ by
     rw [HSTP.out,impT,if_pos (show (i1,i2).2.size=0 from size_nil he)]
     simp only [nil_app,ByteArray.append_assoc])
    have s5:(t++(⟨#[105,109,112,111,114,116,32]⟩++i1):ByteArray).size+(⟨#[59,10]⟩:ByteArray).size≤9223372036854775807:=by (repeat rw [ByteArray.size_append]);simp only [szl,List.size_toArray,List.length_cons,List.length_nil];omega
    go_wp2_with (first
     | ((with_reducible show wpList _ _ _ (⟨some 21,_,_,_,_,_⟩::_) _ _);refine wpList_load_mid rfl 78 _ rfl b (o+k * 2) rfl (impC (i1,i2)) _ HG.out.range Tryz.underlying78 rfl hl1.out ?_)
     | ((with_reducible show wpList _ _ _ (⟨none,.store 78 (.tmp 7) (.tmp 21),_,_,_,_⟩::_) _ _);refine wpList_store_new rfl 78 _ _ rfl _ (impC (i1,i2)).toArray rfl rfl hl2.out h2.out hone.out ?_))
    go_roundw
    case rel=>exact ⟨k+1,_,by omega,by go_num,rfl,Hd HTN.out.symm,HR1,HB1⟩
    case measure=>simp [intOf];omega
   ·have HTN:=Hd (show impsT (l.take (k+1))=t++(⟨#[105,109,112,111,114,116,32]⟩++i1)++(⟨#[32,97,115,32]⟩++i2)++⟨#[59,10]⟩ by
     rw [HSTP.out,impT,if_neg (show ¬ (i1,i2).2.size=0 from fun h=>he (toList_nil h))]
     simp only [ByteArray.append_assoc])
    have n1:(i2.toList==[])=false:=by simp [he]
    have n2:(i2.toList != [])=true:=by simp [he]
    have n3:i2.toList.isEmpty=false:=by simp [he]
    have s3:(⟨#[32,97,115,32]⟩:ByteArray).size+(i2:ByteArray).size≤9223372036854775807:=by simp only [szl,List.size_toArray,List.length_cons,List.length_nil];omega
    have s4:(t++(⟨#[105,109,112,111,114,116,32]⟩++i1):ByteArray).size+(⟨#[32,97,115,32]⟩++i2:ByteArray).size≤9223372036854775807:=by (repeat rw [ByteArray.size_append]);simp only [szl,List.size_toArray,List.length_cons,List.length_nil];omega
    have s5:(t++(⟨#[105,109,112,111,114,116,32]⟩++i1)++(⟨#[32,97,115,32]⟩++i2):ByteArray).size+(⟨#[59,10]⟩:ByteArray).size≤9223372036854775807:=by (repeat rw [ByteArray.size_append]);simp only [szl,List.size_toArray,List.length_cons,List.length_nil];omega
    go_wp2_with (first
     | ((with_reducible show wpList _ _ _ (⟨some 21,_,_,_,_,_⟩::_) _ _);refine wpList_load_mid rfl 78 _ rfl b (o+k * 2) rfl (impC (i1,i2)) _ HG.out.range Tryz.underlying78 rfl hl1.out ?_)
     | ((with_reducible show wpList _ _ _ (⟨none,.store 78 (.tmp 7) (.tmp 21),_,_,_,_⟩::_) _ _);refine wpList_store_new rfl 78 _ _ rfl _ (impC (i1,i2)).toArray rfl rfl hl2.out h2.out hone.out ?_))
    go_roundw
    case rel=>exact ⟨k+1,_,by omega,by go_num,rfl,Hd HTN.out.symm,HR1,HB1⟩
    case measure=>simp [intOf];omega
  obtain rfl:k=l.length:=by omega
  have HTE:=Hd (show t=impsT l by have h:=HTT.out;rwa [List.take_length] at h)
  clear HTT hlt
  go_wp2_with fail
  go_simp
  go_loopw [5,41] (fun v i wr=>∃ (k:Nat) (t2:ByteArray),k≤fs.length∧i=.int .i64 k∧v=.string t2∧Hid (t2=t++defsM (showS 47) (fs.take k))∧Hid (RowT 44 wr w.heap.size cs)∧Hid (Below w.heap.size w wr)) (fun _ i _=>fs.length-(intOf i).toNat)
  case atStart=>exact ⟨0,t,by omega,rfl,rfl,Hd (app_nil t).symm,HRr,HBr⟩
  case round =>
   clear e1 e2 HRr HBr
   obtain ⟨w1,rfl⟩:∃ w1,w1=wr:=⟨wr,rfl⟩
   obtain ⟨k,t2,hk,rfl,rfl,HTT,HRr,HBr⟩:=hrel
   have e2:=HRr.out.cell HC2.out
   have zt2:t2.size≤70368744963456:=by
    rw [HTT.out,ByteArray.size_append]
    have:=ZDS.out k
    omega
   by_cases hlt:k<fs.length
   case pos =>
    obtain ⟨b2,o2,rfl,hb2,hget2⟩:=HFA.out.get (by intro h;rw [h] at hlt;simp at hlt)
    obtain ⟨ff,g1,g2⟩:=hget2 k hlt
    have hlf:=Hd (show (Tryz.prog.info? 72).map (·.size)=some ff.length by rw [g2.len];kernel_rfl)
    have HFR:=Hd (g1.below (HBr.out.mono hB) hb2)
    have hlf2:=Hd (show (Tryz.prog.info? 72).map (·.size)=some ff.toArray.size by rw [List.size_toArray,g2.len];kernel_rfl)
    have h19:=Hd (show 19=ff.toArray.size by rw [List.size_toArray,g2.len])
    have hone:=Hd (show ff.toArray.all (·.oneCell')=true by obtain ⟨_,_,_,gh⟩:=g2.has;exact Go.all_oneCell_toArray gh.one)
    have HB1:=Hd (show Below w.heap.size w (w1.alloc (.cells ff.toArray 72)) from belowThen HBr.out (belowBox w1 _))
    have HBX:=Hd (RowT.new w1 72 ff)
    have HR1:=Hd (HRr.out.alloc (.cells ff.toArray 72))
    have HQF:=Hd (show ∀ u,Below w.heap.size w u→FuncD.At u B N fs[k] ff from fun u hu=>FuncD.At.below (hu.mono hB) _ g2)
    obtain ⟨hp8,he0,hns⟩:=HFU.out _ (List.getElem_mem hlt)
    have HFZ:=Hd (HFT.out _ (List.getElem_mem hlt))
    have HSK:=Hd (show KidP (showS 47) fs[k].body from ⟨sh_op (shO_1 (err_sh he0)),fun h17=>wf_num (shO_1 (err_sh he0)).wf (by rw [h17];decide),HFZ.out,show_all 47 fs[k].body (err_sh he0) (err_size he0).2⟩)
    have zd0:=defS_size (f:=showS 47) ⟨hp8,hns⟩ HFZ.out
    obtain ⟨d,hd⟩:∃ d,defS (showS 47) fs[k]=d:=⟨_,rfl⟩
    have HD:=Hd hd
    rw [hd] at zd0
    have HSTP:=Hd (show t++defsM (showS 47) (fs.take (k+1))=t2++(d++⟨#[10]⟩) by rw [defsM_step (showS 47) hlt,hd,HTT.out];simp only [ByteArray.append_assoc])
    have s1:(d:ByteArray).size+(⟨#[10]⟩:ByteArray).size≤9223372036854775807:=by simp only [szl,List.size_toArray,List.length_cons,List.length_nil];omega
    have s2:t2.size+(d++⟨#[10]⟩:ByteArray).size≤9223372036854775807:=by (repeat rw [ByteArray.size_append]);simp only [szl,List.size_toArray,List.length_cons,List.length_nil];omega
    have HP8:=Hd hp8
    clear g1 g2 hget2 hd he0 hns hp8
    go_wp2_with (first
     | ((with_reducible show wpList _ _ _ (⟨some 44,_,_,_,_,_⟩::_) _ _);refine wpList_load_mid rfl 72 _ rfl b2 (o2+k * 19) rfl ff _ HFR.out.range Tryz.underlying72 rfl hlf.out ?_)
     | ((with_reducible show wpList _ _ _ (⟨none,.store 72 (.tmp 9) (.tmp 44),_,_,_,_⟩::_) _ _);refine wpList_store_new rfl 72 _ _ rfl _ ff.toArray rfl rfl hlf2.out h19.out hone.out ?_)
     | ((with_reducible show wpList _ _ _ (⟨some 46,_,_,_,_,_⟩::_) _ _);refine wpList_load_mid rfl 72 _ rfl w1.heap.size 0 rfl ff _ HBX.out.range Tryz.underlying72 rfl hlf.out ?_))
    refine (define_p (showS 47) fs[k] HSK.out HP8.out _ B N ff hN (Nat.le_trans hB HB1.out.size) (HE.out.then HB1.out) (HQF.out _ HB1.out)).mono ?_
    rw [HD.out]
    rintro e w3 ⟨rfl,hb3⟩
    have HB3:=Hd (belowThen HB1.out hb3)
    have HR3:=Hd (HR1.out.then hb3)
    clear hb3
    go_wp2_with fail
    go_roundw
    case rel=>exact ⟨k+1,_,by omega,by go_num,rfl,Hd HSTP.out.symm,HR3,HB3⟩
    case measure=>simp [intOf];omega
   obtain rfl:k=fs.length:=by omega
   have HTF:=Hd (show t2=impsT l++defsM (showS 47) fs by have h:=HTT.out;rw [List.take_length] at h;rw [h,HTE.out])
   clear HTT hlt
   go_wp2_with ((with_reducible show wpList _ _ _ (⟨some 52,_,_,_,_,_⟩::_) _ _);refine wpList_load_mid rfl 34 _ rfl w.heap.size 3 rfl es _ (HRr.out.cells.partU HES.out) Tryz.underlying34 rfl hle.out ?_)
   refine (absent_p m.main _ B N es (Nat.le_trans hB HBr.out.size) (HMA.out.below (HBr.out.mono hB))).mono ?_
   rintro e w3 ⟨rfl,hb3⟩
   have H3:=Hd (belowThen HBr.out hb3)
   have R3:=Hd (HRr.out.then hb3)
   clear hb3
   cases hab:absB m.main
   case true =>
    have HX:=Hd (show modT m=t2 by rw [HT.out,HTF.out,mainT,if_pos hab,app_nil])
    clear hab
    go_wp2_with fail
    go_ret2
    exact mod_ret HX.out HZ.out H3.out
   have HME:=Hd (show errE m.main=0 from HMN.out.resolve_left (by rw [hab];simp))
   have HBZ:=Hd (show_fit hN (err_sh HME.out) (err_size HME.out).2 HMA.out)
   have HSK:=Hd (show_all 47 m.main (err_sh HME.out) (err_size HME.out).2)
   obtain ⟨sb,hsb⟩:∃ sb,bodyS (showS 47) m.main=sb:=⟨_,rfl⟩
   have HSB:=Hd hsb
   have zsb:sb.size≤274877906946:=by rw [← hsb];exact Nat.le_trans (bodyS_size _ _) (Nat.add_le_add_right HBZ.out 2)
   have HX:=Hd (show modT m=t2++(sb++⟨#[10]⟩) by rw [HT.out,HTF.out,mainT,if_neg (by rw [hab];simp),hsb])
   have s1:(sb:ByteArray).size+(⟨#[10]⟩:ByteArray).size≤9223372036854775807:=by simp only [szl,List.size_toArray,List.length_cons,List.length_nil];omega
   have s2:t2.size+(sb++⟨#[10]⟩:ByteArray).size≤9223372036854775807:=by (repeat rw [ByteArray.size_append]);simp only [szl,List.size_toArray,List.length_cons,List.length_nil];omega
   clear hab hsb
   go_wp2_with ((with_reducible show wpList _ _ _ (⟨some 57,_,_,_,_,_⟩::_) _ _);refine wpList_load_mid rfl 34 _ rfl w.heap.size 3 rfl es _ (R3.out.cells.partU HES.out) Tryz.underlying34 rfl hle.out ?_)
   refine (guarded_p (showS 47) m.main HSK.out HBZ.out _ B N es hN (Nat.le_trans hB H3.out.size) (HE.out.then H3.out) (HMA.out.below (H3.out.mono hB))).mono ?_
   rw [HSB.out]
   rintro e w4 ⟨rfl,hb4⟩
   have H4:=Hd (belowThen H3.out hb4)
   clear hb4
   go_wp2_with fail
   go_ret2
   exact mod_ret HX.out HZ.out H4.out
end Go.Proofs.YtiefeajappjnbaaGreatDoor
