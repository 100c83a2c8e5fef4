/- The law's 'few' and 'fewer' (datakitlaw38): where they say yes no node has more arguments than 65536. -/
import Derived.Test.YtiefeajappjnbaaGreatDoorGA
import Derived.Test.YtiefeajappjnbaaGreatDoorSma38
import Derived.Test.YtiefeajappjnbaaGreatDoorOrr38
import Derived.Test.YtiefeajappjnbaaGreatDoorGB
namespace Go.Proofs.YtiefeajappjnbaaGreatDoor
open Go.RowKit
def zvM:ValD:=.mk 0 false ⟨false,⟨#[]⟩,0⟩ ⟨0,0,0,0⟩ ⟨#[]⟩ [] [] []
def zvC:List Value:=[.int .i64 0,.bool false,.bool false,.string ⟨#[]⟩,.int .i64 0,.int .i64 0,.int .i64 0,.int .i64 0,.int .i64 0,.string ⟨#[]⟩,.slice none 0 0,.slice none 0 0,.slice none 0 0]
theorem zeroV_n (w:World) (B N:Nat):ValD.At w B N zvM zvC:=by
 refine ⟨none,none,none,0,0,0,rfl,?_,.inl rfl,trivial,trivial⟩
 simp [ValD.Own,ValD.kind,ValD.num,ValD.time,ValD.text,ValD.bytes,ValD.list,ValD.fields,I64,ByteArray.size]
theorem holder_n {w:World} {B N b c:Nat} {x:ExprD} {cs:List Value} {l:List FuncD} {fa:Option Addr} (hN1:1≤N) (hb:b<B) (h1:CellsAt w b 0 cs) (hx:ExprD.At w B N x cs) (hl:l.length≤N) (hf:FuncsAt w B N l fa) :
 ExprD.At w B N (.mk 0 ⟨#[]⟩ zvM [x] l)
  [.int .i64 0,.string ⟨#[]⟩,.int .i64 0,.bool false,.bool false,.string ⟨#[]⟩,.int .i64 0,.int .i64 0,.int .i64 0,.int .i64 0,.int .i64 0,.string ⟨#[]⟩,.slice none 0 0,.slice none 0 0,.slice none 0 0,.slice (some ⟨b,0,none⟩) 1 1,.slice fa l.length c]:=by
 refine ⟨_,some ⟨b,0,none⟩,fa,1,c,rfl,?_,zeroV_n w B N,⟨⟨b,0,cs,rfl,hb,h1,hx⟩,trivial⟩,hf,Nat.le_refl _⟩
 simp [ExprD.Own,ExprD.op,ExprD.name,ExprD.args,ExprD.funcs,I64,ByteArray.size]
 exact ⟨hN1,hl⟩
def BoolF (l:List FuncD) (x:ExprD) (w:World) (e:Ending) (w':World):Prop:=∃ (k:Bool),e=.returned (.bool k)∧Hid (k=true→smlF l∧smlE x)∧Below w.heap.size w w'
set_option maxRecDepth 100000 in
set_option maxHeartbeats 1600000 in
theorem few_n (l:List FuncD) (x:ExprD) (fa:Option Addr) (fc:Nat) (w:World) (B N:Nat) (cs:List Value) (hN:N≤1048576) (hN1:1≤N) (hl:l.length≤N) (hB:B≤w.heap.size) (hA:FuncsAt w B N l fa) (hx:ExprD.At w B N x cs) :
 Calls Tryz.prog 33 #[.slice fa l.length fc,.agg cs.toArray] w (BoolF l x w):=by
 have R0:=Hd (box_at w cs 34)
 have hll:=Hd (show (Tryz.prog.info? 34).map (·.size)=some cs.length by rw [hx.len];kernel_rfl)
 have hfz:=fold_zip0 cs zE0 (by rw [hx.len];rfl)
 have HB1:=Hd (belowBox w (.cells cs.toArray 34))
 have HB2:=Hd (belowThen (belowBox w (.cells cs.toArray 34)) (belowBox (w.alloc (.cells cs.toArray 34)) (.cells cs.toArray 34)))
 have hbx:=box_at (w.alloc (.cells cs.toArray 34)) cs 34
 rw [World.size_alloc] at hbx
 have HX:=Hd (holder_n (w:=(w.alloc (.cells cs.toArray 34)).alloc (.cells cs.toArray 34)) (B:=((w.alloc (.cells cs.toArray 34)).alloc (.cells cs.toArray 34)).heap.size) (b:=w.heap.size+1) (c:=fc) (fa:=fa) hN1 (by rw [World.size_alloc (w.alloc _),World.size_alloc];omega)
  hbx ((hx.below (HB2.out.mono hB)).mono (Nat.le_trans hB HB2.out.size)) hl (FuncsAt.mono (Nat.le_trans hB HB2.out.size) _ (FuncsAt.below (HB2.out.mono hB) _ hA)))
 clear hbx
 have hlen:=hx.len
 clear hx hA
 by_cases ha:(l.length:Int)<300
 ·go_enter Tryz.func33,Tryz.ntmps33
  go_wp2_with (refine wpList_load_mid_g2 ?hw 34 _ rfl w.heap.size 0 rfl cs _ R0.out.range Tryz.underlying34 rfl hll.out ?_;case hw=>kernel_rfl)
  refine (small38 60 _ _ _ N _ 400 (Nat.le_refl _) (by omega) (by omega) (by omega) (Nat.le_refl _) HX.out).mono ?_
  rintro e w1 ⟨k,rfl,_,_,HK,hb1⟩
  have H1:=Hd (belowThen HB2.out hb1)
  clear hb1
  go_wp2_with fail
  go_ret
  exact ⟨_,rfl,Hd (fun h=>by
   have:=smlE_iff.1 (HK.out (by simpa using h))
   exact ⟨this.2.2,this.2.1.1⟩),H1.out⟩
 ·go_enter Tryz.func33,Tryz.ntmps33
  go_wp2_with fail
  go_ret
  exact ⟨_,rfl,Hd (fun h=>by simp at h),HB1.out⟩
theorem ModD.At.parts {w:World} {B N:Nat} {m:ModD} {cs:List Value} (h:ModD.At w B N m cs):∃ fa fc es,cs[2]?=some (.slice fa m.funcs.length fc)∧(cs.drop 3).take 17=es∧m.funcs.length≤N∧FuncsAt w B N m.funcs fa∧ExprD.At w B N m.main es:=by
 obtain ⟨ia,fa,ic,fc,es,h⟩:=h
 exact ⟨fa,fc,es,by rw [h.cs];rfl,h.main,h.hf,h.atFun,h.atMain⟩
theorem CellsAt.partO {u:World} {b p:Nat} {xs vs:List Value} {o n:Nat} (h:CellsAt u b p xs) (hv:(xs.drop o).take n=vs):u.rangeAt b (p+o) vs:=fun j v hj=>by
 subst hv
 rw [List.getElem?_take] at hj
 split at hj
 ·rw [List.getElem?_drop] at hj
  have:=h.range (o+j) v hj
  rwa [← Nat.add_assoc] at this
 ·cases hj
def FewR (l:List ModD) (w:World) (e:Ending) (w':World):Prop:=∃ (k:Bool),e=.returned (.bool k)∧Hid (k=true→l.length≤20∧∀ i (hi:i<l.length),smlF l[i].funcs∧smlE l[i].main)∧Below w.heap.size w w'
set_option maxRecDepth 100000 in
set_option maxHeartbeats 6400000 in
theorem fewer_n (m:ModD) (l:List ModD) (a:Option Addr) (c:Nat) (w:World) (B N:Nat) (cs:List Value) (hN:N≤1048576) (hN1:1≤N) (hB:B≤w.heap.size) (hA:ModsAt w B N l a) (hm:ModD.At w B N m cs) :
 Calls Tryz.prog 12 #[.agg cs.toArray,.slice a l.length c] w (FewR l w):=by
 have HA:=Hd hA
 have R0:=Hd (RowT.new w 44 cs)
 have H0:=Hd (belowBox w (.cells cs.toArray 44))
 have HM:=Hd (hm.below (H0.out.mono hB))
 obtain ⟨fa,fc,es,h2,h3,hfl,hfa,hes⟩:=HM.out.parts
 have e2:=R0.out.cell h2
 have HES:=Hd h3
 have hle:=Hd (show (Tryz.prog.info? 34).map (·.size)=some es.length by rw [hes.len];kernel_rfl)
 have HFA:=Hd hfa
 have HE:=Hd hes
 obtain ⟨fs,hfs⟩:∃ fs,m.funcs=fs:=⟨_,rfl⟩
 rw [hfs] at hfl HFA e2
 have hB0:=Hd (Nat.le_trans hB H0.out.size)
 clear hA hm h2 h3 hfa hes hfs
 by_cases hbig:20<l.length
 ·go_enter Tryz.func12,Tryz.ntmps12
  go_wp2_with fail
  go_ret
  exact ⟨_,rfl,Hd (fun h=>by cases h),H0.out⟩
 have hl20:¬ (20:Int)<(l.length:Int):=by omega
 go_enter Tryz.func12,Tryz.ntmps12
 go_wp2_with ((with_reducible show wpList _ _ _ (⟨some 13,_,_,_,_,_⟩::_) _ _);refine wpList_load_mid_g2 ?hw 34 _ rfl w.heap.size 3 rfl es _ (R0.out.cells.partU HES.out) Tryz.underlying34 rfl hle.out ?_;case hw=>kernel_rfl)
 refine (few_n fs m.main fa fc _ B N es hN hN1 hfl hB0.out HFA.out HE.out).mono ?_
 rintro e w1 ⟨k,rfl,HK,hb1⟩
 have HB1:=Hd (belowThen H0.out hb1)
 clear hb1
 cases k
 ·go_wp2_with fail
  go_ret
  exact ⟨_,rfl,Hd (fun h=>by cases h),HB1.out⟩
 clear HK e2
 go_wp2_with fail
 go_simp
 go_loopw [5] (fun i wr=>∃ k:Nat,k≤l.length∧i=.int .i64 k∧Hid (∀ j (hj:j<l.length),j<k→smlF l[j].funcs∧smlE l[j].main)∧Hid (Below w.heap.size w wr)) (fun i _=>l.length-(intOf i).toNat)
 case atStart=>exact ⟨0,by omega,rfl,Hd (fun j _ hj=>absurd hj (by omega)),HB1⟩
 case round =>
  clear HB1
  obtain ⟨w1,rfl⟩:∃ w1,w1=wr:=⟨wr,rfl⟩
  obtain ⟨k,hk,rfl,HOK,HBr⟩:=hrel
  by_cases hlt:k<l.length
  case neg =>
   have HR:=Hd (show l.length≤20∧∀ i (hi:i<l.length),smlF l[i].funcs∧smlE l[i].main from ⟨by omega,fun i hi=>HOK.out i hi (by omega)⟩)
   go_wp2_with fail
   go_ret
   exact ⟨_,rfl,Hd (fun _=>HR.out),HBr.out⟩
  obtain ⟨b,o,rfl,hb,hget⟩:=HA.out.get (by intro h;rw [h] at hlt;simp at hlt)
  obtain ⟨cs1,g1,g2⟩:=hget k hlt
  obtain ⟨ga,gc,gs,q2,q3,qfl,qfa,qes⟩:=g2.parts
  obtain ⟨p,hp⟩:∃ p,o+k * 20=p:=⟨_,rfl⟩
  have HP:=Hd hp
  rw [hp] at g1
  have HG:=Hd g1
  have HQ2:=Hd q2
  have HQ3:=Hd q3
  have hlg:=Hd (show (Tryz.prog.info? 34).map (·.size)=some gs.length by rw [qes.len];kernel_rfl)
  have HFA1:=Hd qfa
  have HE1:=Hd qes
  obtain ⟨fs1,hfs1⟩:∃ fs,l[k].funcs=fs:=⟨_,rfl⟩
  have HFS:=Hd hfs1
  rw [hfs1] at qfl HFA1 HQ2
  clear g1 g2 hget q2 q3 qfa qes hfs1 hp
  have HBU:=Hd (show ∀ u,Below w1.heap.size w1 u→Below w.heap.size w u from fun u hu=>belowThen HBr.out hu)
  go_wp2_with fail
  refine wp_region_held_drew (S:=fun u=>Below w1.heap.size w1 u) (by kernel_rfl) (drewU w1) (fun hHeld=>?_)
  refine' tk 0 (.slice (some ⟨b,o,none⟩) l.length c) rfl rfl (.inl ⟨by rfl,fun u hu=>(by go_simp)⟩) hHeld ?_
  simp only [sq1,sq0]
  refine' tk 1 (.int .i64 k) rfl rfl (.inl ⟨by rfl,fun u hu=>(by go_simp)⟩) hHeld ?_
  simp only [sq1,sq0]
  refine' tk 2 (.pointer (some ⟨b,p,none⟩)) rfl rfl (.inl ⟨by rfl,fun u hu=>(by rw [← HP.out];go_simp)⟩) hHeld ?_
  simp only [sq1,sq0]
  refine' tk 3 (.pointer (some ⟨b,p+2,none⟩)) rfl rfl (.inl ⟨by rfl,fun u hu=>(by go_simp)⟩) hHeld ?_
  simp only [sq1,sq0]
  refine' tk 4 (.slice ga fs1.length gc) rfl rfl (.inl ⟨by rfl,fun u hu=>(by have hc:=(HG.out.below ((HBU.out _ hu).mono hB) hb).getA (j:=2) HQ2.out;go_simp)⟩) hHeld ?_
  simp only [sq1,sq0]
  refine' tk 5 (.slice (some ⟨b,o,none⟩) l.length c) rfl rfl (.inl ⟨by rfl,fun u hu=>(by go_simp)⟩) hHeld ?_
  simp only [sq1,sq0]
  refine' tk 6 (.int .i64 k) rfl rfl (.inl ⟨by rfl,fun u hu=>(by go_simp)⟩) hHeld ?_
  simp only [sq1,sq0]
  refine' tk 7 (.pointer (some ⟨b,p,none⟩)) rfl rfl (.inl ⟨by rfl,fun u hu=>(by rw [← HP.out];go_simp)⟩) hHeld ?_
  simp only [sq1,sq0]
  refine' tk 8 (.pointer (some ⟨b,p+3,none⟩)) rfl rfl (.inl ⟨by rfl,fun u hu=>(by go_simp)⟩) hHeld ?_
  simp only [sq1,sq0]
  refine' tk 9 _ rfl rfl (yieldsIf_load_mid (by kernel_rfl) 34 _ rfl b (p+3) rfl gs _ (fun u hu=>(HG.out.below ((HBU.out _ hu).mono hB) hb).partO HQ3.out) Tryz.underlying34 rfl hlg.out) hHeld ?_
  simp only [sq1,sq0]
  refine rd1 10 rfl (fun K hK=>?_)
  go_simp
  refine (few_n fs1 l[k].main ga gc _ B N gs hN hN1 qfl (Nat.le_trans hB (HBU.out _ hHeld).size) (FuncsAt.below ((HBU.out _ hHeld).mono hB) _ HFA1.out) (HE1.out.below ((HBU.out _ hHeld).mono hB))).mono ?_
  rintro e uC ⟨x,rfl,HX,hbC⟩
  refine hK.out _ _ (belowThen hHeld hbC) (fun hHeld1=>?_)
  clear hK K hbC hHeld
  cases x
  case false =>
   refine' tk 11 (.bool true) rfl rfl (.inl ⟨by rfl,fun u hu=>(by go_simp)⟩) hHeld1 ?_
   simp only [sq1,sq0]
   refine wpAnyH_done (by kernel_rfl) ?_ _
   have H9:=Hd (HBU.out _ hHeld1)
   clear hHeld1
   go_wp2_with fail
   go_ret
   exact ⟨_,rfl,Hd (fun h=>by cases h),H9.out⟩
  refine' tk 11 (.bool false) rfl rfl (.inl ⟨by rfl,fun u hu=>(by go_simp)⟩) hHeld1 ?_
  simp only [sq1,sq0]
  refine wpAnyH_done (by kernel_rfl) ?_ _
  have H9:=Hd (HBU.out _ hHeld1)
  have HOK2:=Hd (show ∀ j (hj:j<l.length),j<k+1→smlF l[j].funcs∧smlE l[j].main from fun j hj hjk=>by
   by_cases he:j=k
   ·subst he;rw [HFS.out];exact HX.out rfl
   ·exact HOK.out j hj (by omega))
  clear hHeld1
  go_wp2_with fail
  go_roundw
  case rel=>exact ⟨k+1,by omega,by go_num,HOK2,H9⟩
  case measure=>simp [intOf];omega
end Go.Proofs.YtiefeajappjnbaaGreatDoor
