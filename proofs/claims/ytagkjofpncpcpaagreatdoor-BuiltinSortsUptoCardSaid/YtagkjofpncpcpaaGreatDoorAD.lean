/- A number as a result, or its error: builtin.valid of an error, builtin.number, datakitref37.number of any pair. -/
import Derived.Test.YtagkjofpncpcpaaGreatDoorProg
import Derived.Test.YtagkjofpncpcpaaGreatDoorGA
import Derived.Test.YtagkjofpncpcpaaGreatDoorGB
import Derived.Test.YtagkjofpncpcpaaGreatDoorGC
import Derived.Test.YtagkjofpncpcpaaGreatDoorGD
import Derived.Test.YtagkjofpncpcpaaGreatDoorGF
import Derived.Test.YtagkjofpncpcpaaGreatDoorHN
import Derived.Test.YtagkjofpncpcpaaGreatDoorXE
import Derived.Test.YtagkjofpncpcpaaGreatDoorChkp
import Derived.Test.YtagkjofpncpcpaaGreatDoorXK
import Derived.Lib.TrimByte
namespace Go.Proofs.YtagkjofpncpcpaaGreatDoor
open Go.RowKit
end Go.Proofs.YtagkjofpncpcpaaGreatDoor

/- datakitref37.Each: what it gives. -/
namespace Go.Proofs.YtagkjofpncpcpaaGreatDoor
open Go.RowKit
theorem rows_of {w:World} {B N b o:Nat} {l:List ValD} (h:∀ i (hi:i<l.length),∃ cs,CellsAt w b (o+i * 13) cs∧ValD.At w B N l[i] cs) :
 ∃ ns:List Value,ns.length=l.length * 13∧(∀ j u,ns[j]?=some u→w.cell? ⟨b,o+j,none⟩=some u)∧(∀ u∈ns,u.oneCell'=true)∧∀ i (hi:i<l.length),ValD.At w B N l[i] ((ns.drop (i * 13)).take 13):=by
 induction l generalizing o with
 | nil=>exact ⟨[],rfl,by simp,by simp,by simp⟩
 | cons v r ih =>
   obtain ⟨cs,h1,h2⟩:=h 0 (by simp)
   obtain ⟨ns,n1,n2,n3,n4⟩:=ih (o:=o+13) (fun i hi=>by
    obtain ⟨cs,g1,g2⟩:=h (i+1) (by simpa using hi)
    exact ⟨cs,by rw [show o+13+i * 13=o+(i+1) * 13 by omega];exact g1,g2⟩)
   have hl:=h2.len
   refine ⟨cs++ns,by rw [List.length_append,hl,n1,List.length_cons];omega,fun j u hu=>?_,fun u hu=>?_,fun i hi=>?_⟩
   ·by_cases hj:j<13
    ·rw [List.getElem?_append_left (by omega)] at hu
     have:=h1 j (by omega)
     rw [show o+0 * 13+j=o+j by omega] at this
     rw [this];exact hu
    ·rw [List.getElem?_append_right (by omega),hl] at hu
     have:=n2 _ _ hu
     rw [show o+13+(j-13)=o+j by omega] at this
     exact this
   ·rcases List.mem_append.1 hu with hu | hu
    ·exact h2.oneCell u hu
    ·exact n3 u hu
   ·match i with
    | 0=>simp only [Nat.zero_mul,List.drop_zero];rw [List.take_append_of_le_length (by omega),List.take_of_length_le (by omega)];exact h2
    | i+1 =>
      rw [show (i+1) * 13=cs.length+i * 13 by omega,← List.drop_drop,List.drop_left]
      exact n4 i (by simpa using hi)
theorem list_rows {w:World} {B N:Nat} {l:List ValD} {la:Option Addr} (h:ValsAt w B N l la) :
 (l=[]∧la=none)∨∃ ad:Addr,la=some ad∧∃ ns:List Value,ns.length=l.length * 13∧(∀ w':World,Below B w w'→∀ j u,ns[j]?=some u→w'.cell? (ad.add j)=some u)∧(∀ u∈ns,u.oneCell'=true)∧∀ i (hi:i<l.length),ValD.At w B N l[i] ((ns.drop (i * 13)).take 13):=by
 by_cases hn:l=[]
 ·subst hn
  cases la with
  | none=>exact .inl ⟨rfl,rfl⟩
  | some ad=>exact .inr ⟨ad,rfl,[],rfl,by simp,by simp,by simp⟩
 ·obtain ⟨b,o,rfl,hb,hget⟩:=h.get hn
  obtain ⟨ns,n1,n2,n3,n4⟩:=rows_of hget
  exact .inr ⟨⟨b,o,none⟩,rfl,ns,n1,fun w' hw j u hu=>by rw [addr_add',hw.cell (p:=⟨b,o+j,none⟩) hb];exact n2 j u hu,n3,n4⟩
end Go.Proofs.YtagkjofpncpcpaaGreatDoor

/- A list of values appended to a row of the call's own, in whatever region; slices.Clone of values. -/
namespace Go.Proofs.YtagkjofpncpcpaaGreatDoor
open Go.RowKit
def NewsV (w:World) (B N:Nat) (l:List ValD) (ns:List Value):Prop:=ns.length=l.length * 13∧∀ i (hi:i<l.length),ValD.At w B N l[i] ((ns.drop (i * 13)).take 13)
theorem NewsV.below {w w':World} {B N:Nat} {l:List ValD} {ns:List Value} (h:NewsV w B N l ns) (hb:Below B w w'):NewsV w' B N l ns:=⟨h.1,fun i hi=>(h.2 i hi).below hb⟩
theorem NewsV.mono {w:World} {B B' N:Nat} {l:List ValD} {ns:List Value} (h:NewsV w B N l ns) (hb:B≤B'):NewsV w B' N l ns:=⟨h.1,fun i hi=>(h.2 i hi).mono hb⟩
theorem NewsV.nil (w:World) (B N:Nat):NewsV w B N [] []:=⟨rfl,fun _ hi=>absurd hi (Nat.not_lt_zero _)⟩
theorem newsV_of {w:World} {B N:Nat} {l:List ValD} {la:Option Addr} (h:ValsAt w B N l la) :
 (l=[]∧la=none)∨∃ ad:Addr,la=some ad∧∃ ns,NewsV w B N l ns∧(∀ w':World,Below B w w'→∀ j u,ns[j]?=some u→w'.cell? (ad.add j)=some u)∧∀ u∈ns,u.oneCell'=true:=by
 rcases list_rows h with h1 | ⟨ad,h1,ns,h2,h3,h4,h5⟩
 ·exact .inl h1
 ·exact .inr ⟨ad,h1,ns,⟨h2,h5⟩,h3,h4⟩
theorem wp_appV {o:Oper} {a:Act} {w:World} {K:Act→World→Prop} {Q:Exit→Act→World→Prop} (s x:Operand) (ho:o.op=.call { callee:=.builtin .append,args:=#[s,x],argTypes:=#[22,22] })
 (base:Nat) (v:Value) (n:Nat) (xs:List Value) (hs:a.eval s=v) (hown:w.ownsRow base 30 13 v n xs) (B N:Nat) (w0:World) (l:List ValD) (lb:Option Addr) (c:Nat) (hx:a.eval x=.slice lb l.length c) (h0:ValsAt w0 B N l lb) (hbw:Below B w0 w)
 (hn1:n≤4294967296) (hn2:l.length≤4294967296) (hbase:base≤w.heap.size)
 (h:∀ v' w' ns,w'.ownsRow base 30 13 v' (n+l.length) (xs++ns)→w.grownBy w' v.ownBlock→NewsV w0 B N l ns→K (a.put o.dst v') w'):o.wp Tryz.prog a w K Q:=by
 obtain ⟨z0,hz0s,hinfo⟩:=infoV
 obtain ⟨i0,hi,hz0,hz1,hz2⟩:=info_parts hinfo
 rcases newsV_of h0 with ⟨rfl,rfl⟩ | ⟨ad,rfl,ns,h1,h2,h3⟩
 ·have hrun:=run_append_nil (P:=Tryz.prog) w base 22 o.type 30 i0 13 Tryz.underlying22 hi v n xs hown c
  have hk:=h v w [] (by simpa using hown) ⟨rfl,rfl,rfl,Nat.le_refl _,fun _ _ _=>rfl⟩ (NewsV.nil _ _ _)
  unfold Oper.wp
  rw [List.length_nil] at hx
  simp [execOp,ho,resolve,invoke,builtin,hs,hx,hrun,Result.andThen]
  exact hk
 ·exact wp_append_own w s x 22 ho base 30 i0 (.agg z0) 13 168 Tryz.underlying22 hi hz0 hz1 hz2 hz0s (by decide) v n xs hs hown ad l.length c ns hx h1.1 (h2 _ hbw) h3 (by unfold maxLen;omega) (by omega) hbase
   fun v' w' k1 k2 _=>h v' w' ns k1 k2 h1
theorem wpList_appV {ops:Array Oper} {rest:List Oper} {o:Oper} {a:Act} {w:World} {Q:Exit→Act→World→Prop} (hgd:o.guard=none) (s x:Operand) (ho:o.op=.call { callee:=.builtin .append,args:=#[s,x],argTypes:=#[22,22] })
 (base:Nat) (v:Value) (n:Nat) (xs:List Value) (hs:a.eval s=v) (hown:w.ownsRow base 30 13 v n xs) (B N:Nat) (w0:World) (l:List ValD) (lb:Option Addr) (c:Nat) (hx:a.eval x=.slice lb l.length c) (h0:ValsAt w0 B N l lb) (hbw:Below B w0 w)
 (hn1:n≤4294967296) (hn2:l.length≤4294967296) (hbase:base≤w.heap.size)
 (h:∀ v' w' ns,w'.ownsRow base 30 13 v' (n+l.length) (xs++ns)→w.grownBy w' v.ownBlock→NewsV w0 B N l ns→wpList Tryz.prog ops Q rest (a.put o.dst v') w'):wpList Tryz.prog ops Q (o::rest) a w :=
 wpList_plain hgd fun _ hK=>wp_appV s x ho base v n xs hs hown B N w0 l lb c hx h0 hbw hn1 hn2 hbase fun v' w' ns k1 k2 k3=>hK _ _ (h v' w' ns k1 k2 k3)
def ClnV (B N:Nat) (l:List ValD) (w:World) (e:Ending) (w':World):Prop:=∃ v xs,e=.returned v∧w'.ownsRow w.heap.size 30 13 v l.length xs∧NewsV w B N l xs∧Below w.heap.size w w'
set_option maxRecDepth 100000 in
theorem clonev_p (l:List ValD) (la:Option Addr) (lc B N:Nat) (w:World) (hl:l.length≤4294967296) (hB:B≤w.heap.size) (h:ValsAt w B N l la) :
 Calls Tryz.prog 66 #[.slice la l.length lc] w (ClnV B N l w):=by
 have HA:=Hd h
 have hnil:la=none→l=[]:=fun e=>by
  subst e
  rcases newsV_of h with h1 | ⟨ad,h1,_⟩
  ·exact h1.1
  ·cases h1
 have q26:∀ (w:World) (a:Option Addr) (n c n' c':Nat),(binOp .eql 22 (.slice a n c) (.slice none n' c')).run Tryz.prog w=.ok (.bool a.isNone) w:=fun w a n c n' c'=>Lib.run_eql_slice_nil w _ _ a n c n' c' Tryz.underlying22
 clear h
 cases la with
 | none =>
   obtain rfl:=hnil rfl
   clear hnil
   go_enter Tryz.func66,Tryz.ntmps66
   go_wp2_with fail
   go_ret
   exact ⟨.slice none 0 0,[],rfl,World.ownsRow_nil _ _ _ _,NewsV.nil _ _ _,Below.refl _ _⟩
 | some ad =>
   have HO:=Hd (World.ownsRow_made w (e:=30) (size:=13) #[] 0 (Nat.le_refl _) (Nat.zero_le _) rfl)
   clear hnil
   go_enter Tryz.func66,Tryz.ntmps66
   go_wp2_with (at_builtin;refine wpList_appV rfl _ _ rfl w.heap.size _ 0 [] rfl HO.out B N w l (some ad) lc rfl HA.out (belowBox' w _ hB) (by omega) hl (by rw [World.size_alloc];omega) ?_)
   intro v' w1 ns hown hgrow hns
   have HB:=Hd (show Below w.heap.size w w1 from (belowBox w _).grown hgrow (by rw [World.size_alloc];omega) (by intro k hk;simp [Value.ownBlock] at hk;omega))
   have HOWN:=Hd (show w1.ownsRow w.heap.size 30 13 v' l.length ns by simpa using hown)
   have HNS:=Hd hns
   clear hown hgrow hns
   go_wp2_with fail
   go_ret
   exact ⟨v',ns,rfl,HOWN.out,HNS.out,HB.out⟩
end Go.Proofs.YtagkjofpncpcpaaGreatDoor

/- Results given exactly (datakitref37.result, list); results that are copies (builtin.valid, list). -/
namespace Go.Proofs.YtagkjofpncpcpaaGreatDoor
open Go.RowKit
set_option maxRecDepth 100000 in
set_option maxHeartbeats 3200000 in
theorem valid_prog_b (n:Nat) (v:ValD) (w:World) (B Bo N:Nat) (cs:List Value) (hn:n≤65536) (hf:fitsV n v) (hN:N≤4294967296) (hB:B≤w.heap.size) (hv:ValD.At w B N v cs) :
 Calls Tryz.prog 16 #[.agg cs.toArray,.int .i64 0] w (ResR Bo N (resD v) w):=by
 have HV:=Hd hv
 have HFT:=Hd hf
 have hl:=Hd (show (Tryz.prog.info? 30).map (·.size)=some cs.length by rw [hv.len];exact sizeV)
 have H0:=Hd (belowThen (belowBox w (.cells cs.toArray 30)) (belowBox (w.alloc (.cells cs.toArray 30)) (.cells zeroV 30)))
 have HS:=Hd (show ((w.alloc (.cells cs.toArray 30)).alloc (.cells zeroV 30)).heap.size=w.heap.size+1+1 by rw [World.size_alloc,World.size_alloc])
 have R0:=Hd ((box_at w cs 30).then (belowBox (w.alloc (.cells cs.toArray 30)) (.cells zeroV 30)) (by rw [World.size_alloc];omega))
 have Z0:=Hd (show RowAt ((w.alloc (.cells cs.toArray 30)).alloc (.cells zeroV 30)) (w.heap.size+1) zeroV.toList from by
  have h:=heap_alloc_new (w.alloc (.cells cs.toArray 30)) (.cells zeroV 30)
  rw [World.size_alloc] at h
  exact h)
 obtain ⟨k,hk⟩:∃ k,chkD v=k:=⟨_,rfl⟩
 have HK:=Hd hk
 clear hv hf
 go_enter Tryz.func16,Tryz.ntmps16
 go_wp2_with ((with_reducible show wpList _ _ _ (⟨some 8,_,_,_,_,_⟩::_) _ _);refine wpList_load_mid rfl 30 _ rfl w.heap.size 0 rfl cs _ R0.out.range Tryz.underlying30 rfl hl.out ?_)
 refine (vcheck_exact v _ B N cs hN (Nat.le_trans hB H0.out.size) (HV.out.below (H0.out.mono hB))).mono ?_
 rintro e w1 ⟨rfl,hb1⟩
 have H1:=Hd (belowThen H0.out hb1)
 have R1:=Hd (R0.out.then hb1 (by rw [HS.out];omega))
 have Z1:=Hd (Z0.out.below hb1 (by rw [HS.out];omega))
 have hs1:w.heap.size+1+1≤w1.heap.size:=by have:=hb1.size;rw [HS.out] at this;omega
 clear hb1
 rw [hk]
 clear hk
 by_cases hk0:k=0
 ·have HR:=Hd (show resD v=(v,0) by unfold resD;rw [if_pos (by rw [HK.out];exact hk0)])
  subst hk0
  go_wp2_with ((with_reducible show wpList _ _ _ (⟨some 14,_,_,_,_,_⟩::_) _ _);refine wpList_load_mid rfl 30 _ rfl w.heap.size 0 rfl cs _ R1.out.range Tryz.underlying30 rfl hl.out ?_)
  refine (copy_ex n v _ B N cs hn HFT.out hN (Nat.le_trans hB H1.out.size) (HV.out.below (H1.out.mono hB))).mono ?_
  rintro e w2 ⟨cs2,rfl,hsafe,hb2⟩
  have S2:=Hd hsafe
  have A2:=Hd hsafe.here
  have hlen:=hsafe.here.len
  have H2:=Hd (belowThen H1.out hb2)
  have Z2:=Hd (Z1.out.below hb2 (by omega))
  have hs2:w.heap.size+1+1≤w2.heap.size:=Nat.le_trans hs1 hb2.size
  clear hsafe hb2
  go_wp2_with ((with_reducible show wpList _ _ _ (⟨none,.store 30 (.tmp 4) _,_,_,_,_⟩::_) _ _);refine wpList_store_row rfl 30 _ _ rfl (w.heap.size+1) cs2.toArray rfl rfl 30 zeroV Z2.out (row_size hlen) (row_zero hlen) (row_ones A2.out) ?_)
  refine bodyPost_ret (results_cell_row2 rfl _ _ (w.heap.size+1) 30 _ (0,0) _ rfl (setRow_heap _ _ _ _ _ _ Z2.out) Tryz.underlying30 rfl (row_size hlen)) rfl ?_
  rw [HR.out]
  have S3:=(S2.out.next (no2:=none) (keep_setRow w2 (w.heap.size+1) w1.heap.size cs2.toArray (by omega)) (fun q _ h=>by cases h)).wide (L:=w.heap.size) (by omega)
  exact ⟨cs2,rfl,fun c hc=>S3 c hc.keep,below_setRow H2.out (by omega) _⟩
 ·have HR:=Hd (show resD v=(zeroD,k) by unfold resD;rw [if_neg (by rw [HK.out];exact hk0),HK.out])
  have hk1:(k==0)=false:=by simpa using hk0
  have hk2:(k != 0)=true:=by simpa using hk0
  clear hk0
  go_wp2_with ((with_reducible show wpList _ _ _ (⟨none,.store 30 (.tmp 4) _,_,_,_,_⟩::_) _ _);refine wpList_store_row rfl 30 _ _ rfl (w.heap.size+1) zeroV rfl rfl 30 zeroV Z1.out sizeZ rfl oneZ ?_)
  refine bodyPost_ret (results_cell_row2 rfl _ _ (w.heap.size+1) 30 _ (0,0) _ rfl (setRow_heap _ _ _ _ _ _ Z1.out) Tryz.underlying30 rfl sizeZ) rfl ?_
  exact res_zero HR.out (by omega) H1.out
set_option maxRecDepth 100000 in
set_option maxHeartbeats 1600000 in
theorem list_prog_b (n:Nat) (hn:n+1≤65536) (l:List ValD) (hf:∀ x∈l,fitsV n x) (a:Option Addr) (c:Nat) (w:World) (B Bo N:Nat) (hN:N≤4294967296) (hl:l.length≤N) (hB:B≤w.heap.size) (hBo:Bo≤w.heap.size) (h:ValsAt w B N l a) :
 Calls Tryz.prog 60 #[.slice a l.length c] w (ResR Bo N (resD (lisD l)) w):=by
 have HF:=Hd (show fitsV (n+1) (lisD l) from ⟨hf,fun f hf=>by cases hf⟩)
 have HA:=Hd (lisD_at c hl h)
 have H0:=Hd (belowBox w (.cells zeroV 30))
 have Z0:=Hd (show RowAt (w.alloc (.cells zeroV 30)) w.heap.size zeroV.toList from heap_alloc_new w (.cells zeroV 30))
 clear h hf
 go_enter Tryz.func60,Tryz.ntmps60
 go_wp2_with fail
 refine (valid_prog_b (n+1) (lisD l) _ B Bo N (lisR l a c) hn HF.out hN (Nat.le_trans hB H0.out.size) (HA.out.below (H0.out.mono hB))).mono ?_
 rintro e w1 ⟨cs2,rfl,hsol,hb⟩
 obtain ⟨r,hr⟩:∃ r,resD (lisD l)=r:=⟨_,rfl⟩
 have HR:=Hd hr
 rw [hr] at hsol ⊢
 have hlen:=hsol.here.len
 have AT:=Hd hsol.here
 have S1:=Hd hsol
 have H1:=Hd (belowThen H0.out hb)
 have Z1:=Hd (Z0.out.below hb (by rw [World.size_alloc];omega))
 clear hsol hb hr
 obtain ⟨rv,rk⟩:=r
 go_wp2_with ((with_reducible show wpList _ _ _ (⟨none,.store 30 (.tmp 2) _,_,_,_,_⟩::_) _ _);refine wpList_store_row rfl 30 _ _ rfl w.heap.size cs2.toArray rfl rfl 30 zeroV Z1.out (row_size hlen) (row_zero hlen) (row_ones AT.out) ?_)
 refine bodyPost_ret (results_cell_row2 rfl _ _ w.heap.size 30 _ (0,0) _ rfl (setRow_heap _ _ _ _ _ _ Z1.out) Tryz.underlying30 rfl (row_size hlen)) rfl ?_
 rw [HR.out]
 refine ⟨cs2,rfl,fun d hd=>S1.out d ?_,below_setRow H1.out (Nat.le_refl _) _⟩
 exact (Apart.of_setRow0 cs2.toArray hBo (by rw [World.size_alloc];omega)).after hd (by rw [World.size_alloc];omega)
theorem list_prog_bn (n:Nat) (hn:n+1≤65536) (l:List ValD) (m:Nat) (hm:l.length=m) (hf:∀ x∈l,fitsV n x) (a:Option Addr) (c:Nat) (w:World) (B Bo N:Nat) (hN:N≤4294967296) (hl:m≤N) (hB:B≤w.heap.size) (hBo:Bo≤w.heap.size) (h:ValsAt w B N l a) :
 Calls Tryz.prog 60 #[.slice a m c] w (ResR Bo N (resD (lisD l)) w):=by
 subst hm
 exact list_prog_b n hn l hf a c w B Bo N hN hl hB hBo h
end Go.Proofs.YtagkjofpncpcpaaGreatDoor
