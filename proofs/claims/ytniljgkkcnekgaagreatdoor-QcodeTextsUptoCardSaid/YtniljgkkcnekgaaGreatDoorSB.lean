/- The library's stable sort of fields by their keys: rows change places. -/
import Derived.Test.YtniljgkkcnekgaaGreatDoorProg
import Derived.Test.YtniljgkkcnekgaaGreatDoorGA
import Derived.Test.YtniljgkkcnekgaaGreatDoorGB
import Derived.Test.YtniljgkkcnekgaaGreatDoorShelf
import Derived.Test.YtniljgkkcnekgaaGreatDoorGC
import Derived.Test.YtniljgkkcnekgaaGreatDoorGK
import Derived.Test.YtniljgkkcnekgaaGreatDoorSA
import Derived.StillTailTactics
namespace Go.Proofs.YtniljgkkcnekgaaGreatDoor
namespace Stb
end Stb
open Go.RowKit Stb
def SrtR (pb n:Nat) (tl:List Value) (P:(Nat→List Value)→Prop) (w:World) (e:Ending) (w':World):Prop:=e=.returned (.tuple #[])∧FB pb w w'∧∃ g,RowsF w' pb n g tl∧P g
set_option maxRecDepth 100000 in
set_option maxHeartbeats 6400000 in
theorem swapr_ex (n c pb:Nat) (f:Nat→List Value) (tl:List Value) (w:World) (a b m:Nat) (h1:a+m≤b) (h2:b+m≤n) (hn:n≤4294967296) (R:RowsF w pb n f tl) :
 Calls Tryz.prog 182 #[.slice (some ⟨pb,0,none⟩) n c,.int .i64 a,.int .i64 b,.int .i64 m,.func (.func 140) #[] #[]] w (SrtR pb n tl (fun g=>g=swapB f a b m) w):=by
 have HR:=Hd R
 clear R
 go_enter Tryz.func182,Tryz.ntmps182
 go_wp2_with fail
 go_loopw [10] (fun i wr=>∃ k:Nat,i=.int .i64 k∧k≤m∧RowsF wr pb n (swapB f a b k) tl∧FB pb w wr) (fun i _=>m-(intOf i).toNat)
 case atStart=>exact ⟨0,rfl,by omega,by rw [swapB_0];exact HR.out,FB.refl _ _⟩
 case round =>
  obtain ⟨k,rfl,hk,hR,hF⟩:=hrel
  obtain ⟨g,hg⟩:∃ g,g=swapB f a b k:=⟨_,rfl⟩
  rw [← hg] at hR
  have HR2:=Hd hR
  have HF:=Hd hF
  have HG:=Hd hg
  clear hR hF HR hg
  by_cases hlt:k<m
  ·have hi:a+k<n:=by omega
   have hj:b+k<n:=by omega
   go_wp2_with fail
   refine wp_region_held_drew (S:=fun _=>True) (by kernel_rfl) trivial (fun hHeld=>?_)
   refine' tk 0 (.slice (some ⟨pb,0,none⟩) n c) rfl rfl (.inl ⟨by rfl,fun u hu=>(by go_simp)⟩) hHeld ?_
   simp only [sq1,sq0]
   refine' tk 1 (.int .i64 ((a:Nat):Int)) rfl rfl (.inl ⟨by rfl,fun u hu=>(by go_simp)⟩) hHeld ?_
   simp only [sq1,sq0]
   refine' tk 2 (.int .i64 ((k:Nat):Int)) rfl rfl (.inl ⟨by rfl,fun u hu=>(by go_simp)⟩) hHeld ?_
   simp only [sq1,sq0]
   refine' tk 3 (.int .i64 ((a+k:Nat):Int)) rfl rfl (.inl ⟨by rfl,fun u hu=>(by go_simp;all_goals first | omega | (rw [IntKind.wrap_i64];omega) | (rw [if_pos (by omega)];congr;all_goals omega))⟩) hHeld ?_
   simp only [sq1,sq0]
   refine' tk 4 (.slice (some ⟨pb,0,none⟩) n c) rfl rfl (.inl ⟨by rfl,fun u hu=>(by go_simp)⟩) hHeld ?_
   simp only [sq1,sq0]
   refine' tk 5 (.int .i64 ((b:Nat):Int)) rfl rfl (.inl ⟨by rfl,fun u hu=>(by go_simp)⟩) hHeld ?_
   simp only [sq1,sq0]
   refine' tk 6 (.int .i64 ((k:Nat):Int)) rfl rfl (.inl ⟨by rfl,fun u hu=>(by go_simp)⟩) hHeld ?_
   simp only [sq1,sq0]
   refine' tk 7 (.int .i64 ((b+k:Nat):Int)) rfl rfl (.inl ⟨by rfl,fun u hu=>(by go_simp;all_goals first | omega | (rw [IntKind.wrap_i64];omega) | (rw [if_pos (by omega)];congr;all_goals omega))⟩) hHeld ?_
   simp only [sq1,sq0]
   refine' tk 8 (.slice (some ⟨pb,0,none⟩) n c) rfl rfl (.inl ⟨by rfl,fun u hu=>(by go_simp)⟩) hHeld ?_
   simp only [sq1,sq0]
   refine' tk 9 (.int .i64 ((b:Nat):Int)) rfl rfl (.inl ⟨by rfl,fun u hu=>(by go_simp)⟩) hHeld ?_
   simp only [sq1,sq0]
   refine' tk 10 (.int .i64 ((k:Nat):Int)) rfl rfl (.inl ⟨by rfl,fun u hu=>(by go_simp)⟩) hHeld ?_
   simp only [sq1,sq0]
   refine' tk 11 (.int .i64 ((b+k:Nat):Int)) rfl rfl (.inl ⟨by rfl,fun u hu=>(by go_simp;all_goals first | omega | (rw [IntKind.wrap_i64];omega) | (rw [if_pos (by omega)];congr;all_goals omega))⟩) hHeld ?_
   simp only [sq1,sq0]
   refine' tk 12 (.pointer (some ⟨pb,(b+k) * 14,none⟩)) rfl rfl (.inl ⟨by rfl,fun u hu=>(by go_simp;all_goals first | omega | (rw [IntKind.wrap_i64];omega) | (rw [if_pos (by omega)];congr;all_goals omega))⟩) hHeld ?_
   simp only [sq1,sq0]
   refine' tk 14 (.slice (some ⟨pb,0,none⟩) n c) rfl rfl (.inl ⟨by rfl,fun u hu=>(by go_simp)⟩) hHeld ?_
   simp only [sq1,sq0]
   refine' tk 15 (.int .i64 ((a:Nat):Int)) rfl rfl (.inl ⟨by rfl,fun u hu=>(by go_simp)⟩) hHeld ?_
   simp only [sq1,sq0]
   refine' tk 16 (.int .i64 ((k:Nat):Int)) rfl rfl (.inl ⟨by rfl,fun u hu=>(by go_simp)⟩) hHeld ?_
   simp only [sq1,sq0]
   refine' tk 17 (.int .i64 ((a+k:Nat):Int)) rfl rfl (.inl ⟨by rfl,fun u hu=>(by go_simp;all_goals first | omega | (rw [IntKind.wrap_i64];omega) | (rw [if_pos (by omega)];congr;all_goals omega))⟩) hHeld ?_
   simp only [sq1,sq0]
   refine' tk 18 (.pointer (some ⟨pb,(a+k) * 14,none⟩)) rfl rfl (.inl ⟨by rfl,fun u hu=>(by go_simp;all_goals first | omega | (rw [IntKind.wrap_i64];omega) | (rw [if_pos (by omega)];congr;all_goals omega))⟩) hHeld ?_
   simp only [sq1,sq0]
   refine wpAnyH_ready (rs:=[13,19]) (by kernel_rfl) (by simp) ?_
   refine AllReadyH.cons rfl (fun K hK=>?_) (AllReadyH.cons rfl (fun K hK=>?_) AllReadyH.nil)
   rotate_left
   rw [if_pos (by rfl)]
   refine wp_load_midL 35 rfl 76 (.tmp 34) rfl pb ((a+k) * 14) rfl (g (a+k)) _ (HR2.out.drew.range hi) Tryz.underlying76 rfl (sizeFLD14 (HR2.out.len _ hi)) ?_
   refine hK.out _ _ trivial (fun _=>?_)
   clear hK K
   simp only [sq1,sq0]
   refine rd1 13 rfl (fun K hK=>?_)
   rw [if_pos (by rfl)]
   refine wp_load_midL 29 rfl 76 (.tmp 28) rfl pb ((b+k) * 14) rfl (g (b+k)) _ (HR2.out.drew.range hj) Tryz.underlying76 rfl (sizeFLD14 (HR2.out.len _ hj)) ?_
   refine hK.out _ _ trivial (fun _=>?_)
   clear hK K
   simp only [sq1,sq0]
   rotate_left
   rw [if_pos (by rfl)]
   refine wp_load_midL 29 rfl 76 (.tmp 28) rfl pb ((b+k) * 14) rfl (g (b+k)) _ (HR2.out.drew.range hj) Tryz.underlying76 rfl (sizeFLD14 (HR2.out.len _ hj)) ?_
   refine hK.out _ _ trivial (fun _=>?_)
   clear hK K
   simp only [sq1,sq0]
   refine rd1 19 rfl (fun K hK=>?_)
   rw [if_pos (by rfl)]
   refine wp_load_midL 35 rfl 76 (.tmp 34) rfl pb ((a+k) * 14) rfl (g (a+k)) _ (HR2.out.drew.range hi) Tryz.underlying76 rfl (sizeFLD14 (HR2.out.len _ hi)) ?_
   refine hK.out _ _ trivial (fun _=>?_)
   clear hK K
   simp only [sq1,sq0]
   all_goals
    refine' tk 20 (.pointer (some ⟨pb,(a+k) * 14,none⟩)) rfl rfl (.inl ⟨by rfl,fun u hu=>(by go_simp;all_goals first | omega | (rw [IntKind.wrap_i64];omega) | (rw [if_pos (by omega)];congr;all_goals omega))⟩) hHeld ?_
    simp only [sq1,sq0]
    refine rd1 21 rfl (fun K hK=>?_)
    rw [if_pos (by rfl)]
    refine wp_store_atL rfl 76 _ _ rfl pb ((a+k) * 14) (g (b+k)) rfl rfl 76 (flatR n g++tl) (flatR n (upd g (a+k) (g (b+k)))++tl) HR2.out.drew.row (sizeFLD14 (HR2.out.len _ hj)) (flatR_set HR2.out.len (HR2.out.len _ hj) hi) (fit14 HR2.out.len (HR2.out.len _ hj) hi) (HR2.out.one _ hj) ?_
    refine hK.out _ _ trivial (fun _=>?_)
    clear hK K
    have HS1:=Hd (HR2.out.drew.put hi hj)
    refine' tk 22 (.pointer (some ⟨pb,(b+k) * 14,none⟩)) rfl rfl (.inl ⟨by rfl,fun u hu=>(by go_simp;all_goals first | omega | (rw [IntKind.wrap_i64];omega) | (rw [if_pos (by omega)];congr;all_goals omega))⟩) hHeld ?_
    simp only [sq1,sq0]
    refine rd1 23 rfl (fun K hK=>?_)
    rw [if_pos (by rfl)]
    refine wp_store_atL rfl 76 _ _ rfl pb ((b+k) * 14) (g (a+k)) rfl rfl 76 (flatR n (upd g (a+k) (g (b+k)))++tl) (flatR n (upd (upd g (a+k) (g (b+k))) (b+k) (g (a+k)))++tl) HS1.out.row (sizeFLD14 (HR2.out.len _ hi)) (flatR_set HS1.out.len (HR2.out.len _ hi) hj) (fit14 HS1.out.len (HR2.out.len _ hi) hj) (HR2.out.one _ hi) ?_
    refine hK.out _ _ trivial (fun _=>?_)
    clear hK K HS1
    have HS2:=Hd (HR2.out.drew.swapped hi hj)
    have HF2:=Hd (HF.out.drew.swapped n g tl (a+k) (b+k))
    refine wpAnyH_done (by kernel_rfl) ?_ _
    go_wp2_with fail
    go_roundw
    case rel=>exact ⟨k+1,by go_num,by omega,by rw [swapB_s f (a:=a) (b:=b) (n:=k) (by omega),← HG.out];exact HS2.out,HF2.out⟩
    case measure=>simp [intOf];omega
  ·obtain rfl:k=m:=by omega
   go_wp2_with fail
   go_end0
   exact ⟨rfl,HF.out,_,HR2.out,HG.out⟩
set_option maxRecDepth 100000 in
set_option maxHeartbeats 6400000 in
theorem rotr_ex (n c pb:Nat) (f:Nat→List Value) (tl:List Value) (w:World) (a m b:Nat) (h1:a<m) (h2:m<b) (h3:b≤n) (hn:n≤4294967296) (R:RowsF w pb n f tl) :
 Calls Tryz.prog 176 #[.slice (some ⟨pb,0,none⟩) n c,.int .i64 a,.int .i64 m,.int .i64 b,.func (.func 140) #[] #[]] w (SrtR pb n tl (fun g=>g=rot f a m b) w):=by
 have HR:=Hd R
 clear R
 go_enter Tryz.func176,Tryz.ntmps176
 go_wp2_with fail
 go_loopw [10,11] (fun x y wr=>∃ (i j:Nat) (g:Nat→List Value),x=.int .i64 i∧y=.int .i64 j∧0<i∧0<j∧i≤m∧m+j≤n∧RowsF wr pb n g tl∧FB pb w wr∧rot f a m b=rot g (m-i) m (m+j)) (fun x y _=>(intOf x).toNat+(intOf y).toNat)
 case atStart=>exact ⟨m-a,b-m,f,by go_num,by go_num,by omega,by omega,by omega,by omega,HR.out,FB.refl _ _,by rw [show m-(m-a)=a by omega,show m+(b-m)=b by omega]⟩
 case round =>
  obtain ⟨i,j,g,rfl,rfl,hi,hj,him,hjn,hR,hF,hE⟩:=hrel
  have HR2:=Hd hR
  have HF:=Hd hF
  have HE:=Hd hE
  clear hR hF hE HR
  by_cases hlt:j<i
  ·have hne:(i:Int)≠(j:Int):=by omega
   go_wp2_with (go_at_call 182;rw [show (m:Int)-(i:Int)=((m-i:Nat):Int) by omega];refine (swapr_ex n c pb g tl _ (m-i) m j (by omega) (by omega) (by omega) HR2.out).mono ?_;rintro e w2 ⟨rfl,hf2,g2,hr2,hg2⟩;have HR3:=Hd hr2;have HF3:=Hd hf2;have HG:=Hd hg2;clear hr2 hf2 hg2)
   go_roundw
   case rel=>exact ⟨i-j,j,g2,by go_num,rfl,by omega,hj,by omega,hjn,HR3.out,HF.out.trans HF3.out,by rw [HE.out,rot_gt g hlt him,HG.out]⟩
   case measure=>simp [intOf];omega
  ·by_cases hlt2:i<j
   ·have hne:(i:Int)≠(j:Int):=by omega
    go_wp2_with (go_at_call 182;rw [show (m:Int)-(i:Int)=((m-i:Nat):Int) by omega,show (m:Int)+(j:Int)-(i:Int)=((m+j-i:Nat):Int) by omega];refine (swapr_ex n c pb g tl _ (m-i) (m+j-i) i (by omega) (by omega) (by omega) HR2.out).mono ?_;rintro e w2 ⟨rfl,hf2,g2,hr2,hg2⟩;have HR3:=Hd hr2;have HF3:=Hd hf2;have HG:=Hd hg2;clear hr2 hf2 hg2)
    go_roundw
    case rel=>exact ⟨i,j-i,g2,rfl,by go_num,hi,by omega,him,by omega,HR3.out,HF.out.trans HF3.out,by rw [HE.out,rot_lt g hlt2 him,HG.out]⟩
    case measure=>simp [intOf];omega
   ·obtain rfl:i=j:=by omega
    go_wp2_with (go_at_call 182;rw [show (m:Int)-(i:Int)=((m-i:Nat):Int) by omega];refine (swapr_ex n c pb g tl _ (m-i) m i (by omega) (by omega) (by omega) HR2.out).mono ?_;rintro e w2 ⟨rfl,hf2,g2,hr2,hg2⟩;have HR3:=Hd hr2;have HF3:=Hd hf2;have HG:=Hd hg2;clear hr2 hf2 hg2)
    go_end0
    exact ⟨rfl,HF.out.trans HF3.out,_,HR3.out,by rw [HG.out,HE.out,rot_eq g him]⟩
end Go.Proofs.YtniljgkkcnekgaaGreatDoor

/- The library's stable sort of fields by their keys: the comparison, the sort by insertion. -/
namespace Go.Proofs.YtniljgkkcnekgaaGreatDoor
open Go.RowKit Stb
theorem keycmp_ex (r s:List Value) (kr ks:ByteArray) (hr:r[0]?=some (.string kr)) (hs:s[0]?=some (.string ks)) (w:World) :
 Calls Tryz.prog 140 #[.agg r.toArray,.agg s.toArray] w (fun e w'=>e=.returned (.int .i64 (cmpS kr ks))∧Below w.heap.size w w'):=by
 have HB:=Hd (show Below w.heap.size w ((w.alloc (.cells r.toArray 76)).alloc (.cells s.toArray 76)) from belowThen (belowBox w _) (belowBox _ _))
 have c1:((w.alloc (.cells r.toArray 76)).alloc (.cells s.toArray 76)).cell? ⟨w.heap.size,0,none⟩=some (.string kr):=((RowT.new w 76 r).alloc _).cell hr
 have c2:((w.alloc (.cells r.toArray 76)).alloc (.cells s.toArray 76)).cell? ⟨w.heap.size+1,0,none⟩=some (.string ks):=by
  have:=RowT.new (w.alloc (.cells r.toArray 76)) 76 s
  rw [World.size_alloc] at this
  exact this.cell hs
 clear hr hs
 go_enter Tryz.func140,Tryz.ntmps140
 go_wp2_with (go_at_call 141;refine (Tryz.strings_Compare _ _ _).mono ?_;rintro e w1 ⟨rfl,rfl⟩)
 go_ret
 exact ⟨by rw [← cmpB_S];rfl,HB.out⟩
def LeR (r s:List Value):Prop:=¬ (keyR s).data.toList<(keyR r).data.toList
theorem ordR:Ord LeR:=⟨fun x y z h k=>by
 unfold LeR at *
 rw [List.not_lt] at *
 exact List.le_trans h k,fun x y=>by
 unfold LeR
 rw [List.not_lt,List.not_lt]
 exact List.le_total _ _⟩
theorem cmpS_lt (a b:ByteArray):cmpS a b<0↔a.data.toList<b.data.toList:=by rw [← cmpB_S];exact cmpB_lt _ _
theorem leR_no {r s:List Value} {x:Int} (h:x=cmpS (keyR s) (keyR r)) (hx:¬ x<0):LeR r s:=fun hl=>hx (by rw [h];exact (cmpS_lt _ _).2 hl)
theorem leR_yes {r s:List Value} {x:Int} (h:x=cmpS (keyR s) (keyR r)) (hx:x<0):¬ LeR r s:=fun hl=>hl ((cmpS_lt _ _).1 (h ▸ hx))
set_option maxRecDepth 100000 in
set_option maxHeartbeats 6400000 in
theorem ins_ex (n c pb:Nat) (f:Nat→List Value) (tl:List Value) (w:World) (a b:Nat) (h1:a≤b) (h2:b≤n) (hn:n≤4294967296) (R:RowsF w pb n f tl) :
 Calls Tryz.prog 169 #[.slice (some ⟨pb,0,none⟩) n c,.int .i64 a,.int .i64 b,.func (.func 140) #[] #[]] w (SrtR pb n tl (fun g=>PermOn a b f g∧SortedOn LeR g a b) w):=by
 have HR:=Hd R
 clear R
 go_enter Tryz.func169,Tryz.ntmps169
 go_wp2_with fail
 go_loopw [8] (fun x wr=>∃ (i:Nat) (g:Nat→List Value),x=.int .i64 i∧a<i∧i≤b+1∧RowsF wr pb n g tl∧FB pb w wr∧PermOn a b f g∧SortedOn LeR g a i) (fun x _=>b+1-(intOf x).toNat)
 case atStart=>exact ⟨a+1,f,by go_num,by omega,by omega,HR.out,FB.refl _ _,PermOn.refl _ _ _,sorted_one (Nat.le_refl _)⟩
 case round =>
  obtain ⟨i,g0,rfl,hai,hib,hR,hF,hP,hS⟩:=hrel
  have HR1:=Hd hR
  have HF1:=Hd hF
  have HP:=Hd hP
  have HS:=Hd hS
  clear hR hF hP hS HR
  by_cases hlt:i<b
  ·go_wp2_with fail
   go_loopw [9] (fun y wr=>∃ (j:Nat) (g:Nat→List Value),y=.int .i64 j∧a≤j∧j≤i∧RowsF wr pb n g tl∧FB pb w wr∧g=dn1 g0 j i∧∀ h,j≤h→h<i→¬ LeR (g0 h) (g0 i)) (fun y _=>(intOf y).toNat)
   case atStart=>exact ⟨i,g0,rfl,by omega,Nat.le_refl _,HR1.out,HF1.out,by rw [dn1_0],fun h h3 h4=>by omega⟩
   case round =>
    obtain ⟨j,g,rfl,haj,hji,hR,hF,hg,hlo⟩:=hrel
    have HR2:=Hd hR
    have HF:=Hd hF
    have HG:=Hd hg
    have HLO:=Hd hlo
    clear hR hF hg hlo HR1 HF1
    have OUT:=Hd (show (∀ h,a≤h→h<j→LeR (g0 h) (g0 i))→PermOn a b f g∧SortedOn LeR g a (i+1) from fun hhi=>by
     have:=dn1_sorted ordR haj hji HS.out hhi HLO.out
     rw [HG.out]
     exact ⟨HP.out.trans (this.1.wide (Nat.le_refl _) (by omega)),this.2⟩)
    by_cases hja:a<j
    ·obtain ⟨q,rfl⟩:∃ q,j=q+1:=⟨j-1,by omega⟩
     have hi:q+1<n:=by omega
     have hj:q<n:=by omega
     obtain ⟨x,hx⟩:∃ x,x=cmpS (keyR (g (q+1))) (keyR (g q)):=⟨_,rfl⟩
     have HX:=Hd hx
     clear hx
     have e1:g (q+1)=g0 i:=by rw [HG.out];unfold dn1;rw [if_pos ⟨rfl,hji⟩]
     have e2:g q=g0 q:=by rw [HG.out];unfold dn1;rw [if_neg (by omega),if_neg (by omega)]
     have E1:=Hd e1
     have E2:=Hd e2
     clear e1 e2
     go_wp2_with fail
     refine wp_region_held_drew (S:=fun u=>RowsF u pb n g tl∧FB pb w u) (by kernel_rfl) ⟨HR2.out.drew,HF.out.drew⟩ (fun hHeld=>?_)
     refine' tk 0 (.int .i64 ((q+1:Nat):Int)) rfl rfl (.inl ⟨by rfl,fun u hu=>(by go_simp)⟩) hHeld ?_
     simp only [sq1,sq0]
     refine' tk 1 (.int .i64 ((a:Nat):Int)) rfl rfl (.inl ⟨by rfl,fun u hu=>(by go_simp)⟩) hHeld ?_
     simp only [sq1,sq0]
     refine' tk 2 (.bool (true)) rfl rfl (.inl ⟨by rfl,fun u hu=>(by go_simp;all_goals first | omega | (rw [IntKind.wrap_i64];omega) | (rw [if_pos (by omega)];congr;all_goals omega))⟩) hHeld ?_
     simp only [sq1,sq0]
     refine' tk 3 (.bool (true)) rfl rfl (.inl ⟨by rfl,fun u hu=>(by go_simp)⟩) hHeld ?_
     simp only [sq1,sq0]
     refine' tk 4 (.func (.func 140) #[] #[]) rfl rfl (.inl ⟨by rfl,fun u hu=>(by go_simp)⟩) hHeld ?_
     simp only [sq1,sq0]
     refine' tk 5 (.slice (some ⟨pb,0,none⟩) n c) rfl rfl (.inl ⟨by rfl,fun u hu=>(by go_simp)⟩) hHeld ?_
     simp only [sq1,sq0]
     refine' tk 6 (.int .i64 ((q+1:Nat):Int)) rfl rfl (.inl ⟨by rfl,fun u hu=>(by go_simp)⟩) hHeld ?_
     simp only [sq1,sq0]
     refine' tk 7 (.pointer (some ⟨pb,(q+1) * 14,none⟩)) rfl rfl (.inl ⟨by rfl,fun u hu=>(by go_simp;all_goals first | omega | (rw [IntKind.wrap_i64];omega) | (rw [if_pos (by omega)];congr;all_goals omega))⟩) hHeld ?_
     simp only [sq1,sq0]
     refine' tk 8 (.agg (g (q+1)).toArray) rfl rfl (yieldsIf_load_mid (by kernel_rfl) 76 _ rfl pb ((q+1) * 14) rfl (g (q+1)) _ (fun u hu=>hu.1.range hi) Tryz.underlying76 rfl (sizeFLD14 (HR2.out.len _ hi))) hHeld ?_
     simp only [sq1,sq0]
     refine' tk 9 (.slice (some ⟨pb,0,none⟩) n c) rfl rfl (.inl ⟨by rfl,fun u hu=>(by go_simp)⟩) hHeld ?_
     simp only [sq1,sq0]
     refine' tk 10 (.int .i64 ((q+1:Nat):Int)) rfl rfl (.inl ⟨by rfl,fun u hu=>(by go_simp)⟩) hHeld ?_
     simp only [sq1,sq0]
     refine' tk 11 (.int .i64 ((q:Nat):Int)) rfl rfl (.inl ⟨by rfl,fun u hu=>(by go_simp;all_goals first | omega | (rw [IntKind.wrap_i64];omega) | (rw [if_pos (by omega)];congr;all_goals omega))⟩) hHeld ?_
     simp only [sq1,sq0]
     refine' tk 12 (.pointer (some ⟨pb,q * 14,none⟩)) rfl rfl (.inl ⟨by rfl,fun u hu=>(by go_simp;all_goals first | omega | (rw [IntKind.wrap_i64];omega) | (rw [if_pos (by omega)];congr;all_goals omega))⟩) hHeld ?_
     simp only [sq1,sq0]
     refine' tk 13 (.agg (g q).toArray) rfl rfl (yieldsIf_load_mid (by kernel_rfl) 76 _ rfl pb (q * 14) rfl (g q) _ (fun u hu=>hu.1.range hj) Tryz.underlying76 rfl (sizeFLD14 (HR2.out.len _ hj))) hHeld ?_
     simp only [sq1,sq0]
     refine rd1 14 rfl (fun K hK=>?_)
     rw [if_pos (by rfl)]
     go_simp
     refine (keycmp_ex (g (q+1)) (g q) _ _ (HR2.out.key _ hi) (HR2.out.key _ hj) _).mono ?_
     rintro e u1 ⟨rfl,hbC⟩
     rw [← HX.out]
     refine hK.out _ _ ⟨hHeld.1.fb hbC,hHeld.2.trans (FB.of_below hbC)⟩ (fun hHeld1=>?_)
     clear hK K hbC hHeld
     have hHeld:=hHeld1
     clear hHeld1
     refine' tk 15 (.bool (decide (x<0))) rfl rfl (.inl ⟨by rfl,fun u hu=>(by go_simp)⟩) hHeld ?_
     simp only [sq1,sq0]
     refine' tk 16 (.bool (decide (x<0))) rfl rfl (.inl ⟨by rfl,fun u hu=>(by go_simp)⟩) hHeld ?_
     simp only [sq1,sq0]
     refine wpAnyH_done (by kernel_rfl) ?_ _
     have HR4:=Hd hHeld.1
     have HF4:=Hd hHeld.2
     clear hHeld
     by_cases hc:x<0
     ·go_wp2_with fail
      refine wp_region_held_drew (S:=fun _=>True) (by kernel_rfl) trivial (fun hHeld=>?_)
      refine' tk 0 (.slice (some ⟨pb,0,none⟩) n c) rfl rfl (.inl ⟨by rfl,fun u hu=>(by go_simp)⟩) hHeld ?_
      simp only [sq1,sq0]
      refine' tk 1 (.int .i64 ((q+1:Nat):Int)) rfl rfl (.inl ⟨by rfl,fun u hu=>(by go_simp)⟩) hHeld ?_
      simp only [sq1,sq0]
      refine' tk 2 (.slice (some ⟨pb,0,none⟩) n c) rfl rfl (.inl ⟨by rfl,fun u hu=>(by go_simp)⟩) hHeld ?_
      simp only [sq1,sq0]
      refine' tk 3 (.int .i64 ((q+1:Nat):Int)) rfl rfl (.inl ⟨by rfl,fun u hu=>(by go_simp)⟩) hHeld ?_
      simp only [sq1,sq0]
      refine' tk 4 (.int .i64 ((q:Nat):Int)) rfl rfl (.inl ⟨by rfl,fun u hu=>(by go_simp;all_goals first | omega | (rw [IntKind.wrap_i64];omega) | (rw [if_pos (by omega)];congr;all_goals omega))⟩) hHeld ?_
      simp only [sq1,sq0]
      refine' tk 5 (.slice (some ⟨pb,0,none⟩) n c) rfl rfl (.inl ⟨by rfl,fun u hu=>(by go_simp)⟩) hHeld ?_
      simp only [sq1,sq0]
      refine' tk 6 (.int .i64 ((q+1:Nat):Int)) rfl rfl (.inl ⟨by rfl,fun u hu=>(by go_simp)⟩) hHeld ?_
      simp only [sq1,sq0]
      refine' tk 7 (.int .i64 ((q:Nat):Int)) rfl rfl (.inl ⟨by rfl,fun u hu=>(by go_simp;all_goals first | omega | (rw [IntKind.wrap_i64];omega) | (rw [if_pos (by omega)];congr;all_goals omega))⟩) hHeld ?_
      simp only [sq1,sq0]
      refine' tk 8 (.pointer (some ⟨pb,q * 14,none⟩)) rfl rfl (.inl ⟨by rfl,fun u hu=>(by go_simp;all_goals first | omega | (rw [IntKind.wrap_i64];omega) | (rw [if_pos (by omega)];congr;all_goals omega))⟩) hHeld ?_
      simp only [sq1,sq0]
      refine' tk 10 (.slice (some ⟨pb,0,none⟩) n c) rfl rfl (.inl ⟨by rfl,fun u hu=>(by go_simp)⟩) hHeld ?_
      simp only [sq1,sq0]
      refine' tk 11 (.int .i64 ((q+1:Nat):Int)) rfl rfl (.inl ⟨by rfl,fun u hu=>(by go_simp)⟩) hHeld ?_
      simp only [sq1,sq0]
      refine' tk 12 (.pointer (some ⟨pb,(q+1) * 14,none⟩)) rfl rfl (.inl ⟨by rfl,fun u hu=>(by go_simp;all_goals first | omega | (rw [IntKind.wrap_i64];omega) | (rw [if_pos (by omega)];congr;all_goals omega))⟩) hHeld ?_
      simp only [sq1,sq0]
      refine wpAnyH_ready (rs:=[9,13]) (by kernel_rfl) (by simp) ?_
      refine AllReadyH.cons rfl (fun K hK=>?_) (AllReadyH.cons rfl (fun K hK=>?_) AllReadyH.nil)
      rotate_left
      rw [if_pos (by rfl)]
      refine wp_load_midL 50 rfl 76 (.tmp 49) rfl pb ((q+1) * 14) rfl (g (q+1)) _ (HR4.out.drew.range hi) Tryz.underlying76 rfl (sizeFLD14 (HR4.out.len _ hi)) ?_
      refine hK.out _ _ trivial (fun _=>?_)
      clear hK K
      simp only [sq1,sq0]
      refine rd1 9 rfl (fun K hK=>?_)
      rw [if_pos (by rfl)]
      refine wp_load_midL 46 rfl 76 (.tmp 45) rfl pb (q * 14) rfl (g q) _ (HR4.out.drew.range hj) Tryz.underlying76 rfl (sizeFLD14 (HR4.out.len _ hj)) ?_
      refine hK.out _ _ trivial (fun _=>?_)
      clear hK K
      simp only [sq1,sq0]
      rotate_left
      rw [if_pos (by rfl)]
      refine wp_load_midL 46 rfl 76 (.tmp 45) rfl pb (q * 14) rfl (g q) _ (HR4.out.drew.range hj) Tryz.underlying76 rfl (sizeFLD14 (HR4.out.len _ hj)) ?_
      refine hK.out _ _ trivial (fun _=>?_)
      clear hK K
      simp only [sq1,sq0]
      refine rd1 13 rfl (fun K hK=>?_)
      rw [if_pos (by rfl)]
      refine wp_load_midL 50 rfl 76 (.tmp 49) rfl pb ((q+1) * 14) rfl (g (q+1)) _ (HR4.out.drew.range hi) Tryz.underlying76 rfl (sizeFLD14 (HR4.out.len _ hi)) ?_
      refine hK.out _ _ trivial (fun _=>?_)
      clear hK K
      simp only [sq1,sq0]
      all_goals
       refine' tk 14 (.pointer (some ⟨pb,(q+1) * 14,none⟩)) rfl rfl (.inl ⟨by rfl,fun u hu=>(by go_simp;all_goals first | omega | (rw [IntKind.wrap_i64];omega) | (rw [if_pos (by omega)];congr;all_goals omega))⟩) hHeld ?_
       simp only [sq1,sq0]
       refine rd1 15 rfl (fun K hK=>?_)
       rw [if_pos (by rfl)]
       refine wp_store_atL rfl 76 _ _ rfl pb ((q+1) * 14) (g q) rfl rfl 76 (flatR n g++tl) (flatR n (upd g (q+1) (g q))++tl) HR4.out.drew.row (sizeFLD14 (HR4.out.len _ hj)) (flatR_set HR4.out.len (HR4.out.len _ hj) hi) (fit14 HR4.out.len (HR4.out.len _ hj) hi) (HR4.out.one _ hj) ?_
       refine hK.out _ _ trivial (fun _=>?_)
       clear hK K
       have HS1:=Hd (HR4.out.drew.put hi hj)
       refine' tk 16 (.pointer (some ⟨pb,q * 14,none⟩)) rfl rfl (.inl ⟨by rfl,fun u hu=>(by go_simp;all_goals first | omega | (rw [IntKind.wrap_i64];omega) | (rw [if_pos (by omega)];congr;all_goals omega))⟩) hHeld ?_
       simp only [sq1,sq0]
       refine rd1 17 rfl (fun K hK=>?_)
       rw [if_pos (by rfl)]
       refine wp_store_atL rfl 76 _ _ rfl pb (q * 14) (g (q+1)) rfl rfl 76 (flatR n (upd g (q+1) (g q))++tl) (flatR n (upd (upd g (q+1) (g q)) q (g (q+1)))++tl) HS1.out.row (sizeFLD14 (HR4.out.len _ hi)) (flatR_set HS1.out.len (HR4.out.len _ hi) hj) (fit14 HS1.out.len (HR4.out.len _ hi) hj) (HR4.out.one _ hi) ?_
       refine hK.out _ _ trivial (fun _=>?_)
       clear hK K HS1
       have HS2:=Hd (HR4.out.drew.swapped hi hj)
       have HF2:=Hd (HF4.out.drew.swapped n g tl (q+1) q)
       refine wpAnyH_done (by kernel_rfl) ?_ _
       go_wp2_with fail
       go_roundw
       case rel=>exact ⟨q,_,by go_num,by omega,by omega,HS2.out,HF2.out,by rw [HG.out,dn1_s g0 (i:=q) (m:=i) (by omega)],fun h h3 h4=>by
        rcases Nat.lt_or_ge h (q+1) with h5 | h5
        ·obtain rfl:h=q:=by omega
         rw [← E2.out,← E1.out]
         exact leR_yes HX.out hc
        ·exact HLO.out h h5 h4⟩
       case measure=>simp [intOf]
     ·have hx0:=Hd (show LeR (g0 q) (g0 i) from by rw [← E2.out,← E1.out];exact leR_no HX.out hc)
      go_wp2_with fail
      go_roundw
      case rel=>exact ⟨i+1,g,by go_num,by omega,by omega,HR4.out,HF4.out,OUT.out fun h h3 h4=>by
       rcases Nat.lt_or_ge h q with h5 | h5
       ·exact ordR.trans _ _ _ (HS.out h q h3 h5 (by omega)) hx0.out
       ·obtain rfl:h=q:=by omega
        exact hx0.out⟩
      case measure=>simp [intOf];omega
    ·obtain rfl:j=a:=by omega
     go_wp2_with fail
     refine wp_region_held_drew (S:=fun u=>RowsF u pb n g tl∧FB pb w u) (by kernel_rfl) ⟨HR2.out.drew,HF.out.drew⟩ (fun hHeld=>?_)
     refine' tk 0 (.int .i64 ((j:Nat):Int)) rfl rfl (.inl ⟨by rfl,fun u hu=>(by go_simp)⟩) hHeld ?_
     simp only [sq1,sq0]
     refine' tk 1 (.int .i64 ((j:Nat):Int)) rfl rfl (.inl ⟨by rfl,fun u hu=>(by go_simp)⟩) hHeld ?_
     simp only [sq1,sq0]
     refine' tk 2 (.bool (false)) rfl rfl (.inl ⟨by rfl,fun u hu=>(by go_simp;all_goals first | omega | (rw [IntKind.wrap_i64];omega) | (rw [if_pos (by omega)];congr;all_goals omega))⟩) hHeld ?_
     simp only [sq1,sq0]
     refine' tk 3 (.bool (false)) rfl rfl (.inl ⟨by rfl,fun u hu=>(by go_simp)⟩) hHeld ?_
     simp only [sq1,sq0]
     refine' tk 4 undef rfl rfl (.inr ⟨by rfl,rfl⟩) hHeld ?_
     simp only [sq1,sq0]
     refine' tk 5 undef rfl rfl (.inr ⟨by rfl,rfl⟩) hHeld ?_
     simp only [sq1,sq0]
     refine' tk 6 undef rfl rfl (.inr ⟨by rfl,rfl⟩) hHeld ?_
     simp only [sq1,sq0]
     refine' tk 7 undef rfl rfl (.inr ⟨by rfl,rfl⟩) hHeld ?_
     simp only [sq1,sq0]
     refine' tk 8 undef rfl rfl (.inr ⟨by rfl,rfl⟩) hHeld ?_
     simp only [sq1,sq0]
     refine' tk 9 undef rfl rfl (.inr ⟨by rfl,rfl⟩) hHeld ?_
     simp only [sq1,sq0]
     refine' tk 10 undef rfl rfl (.inr ⟨by rfl,rfl⟩) hHeld ?_
     simp only [sq1,sq0]
     refine' tk 11 undef rfl rfl (.inr ⟨by rfl,rfl⟩) hHeld ?_
     simp only [sq1,sq0]
     refine' tk 12 undef rfl rfl (.inr ⟨by rfl,rfl⟩) hHeld ?_
     simp only [sq1,sq0]
     refine' tk 13 undef rfl rfl (.inr ⟨by rfl,rfl⟩) hHeld ?_
     simp only [sq1,sq0]
     refine' tk 14 undef rfl rfl (.inr ⟨by rfl,rfl⟩) hHeld ?_
     simp only [sq1,sq0]
     refine' tk 15 undef rfl rfl (.inr ⟨by rfl,rfl⟩) hHeld ?_
     simp only [sq1,sq0]
     refine' tk 16 (.bool (false)) rfl rfl (.inl ⟨by rfl,fun u hu=>(by go_simp)⟩) hHeld ?_
     simp only [sq1,sq0]
     refine wpAnyH_done (by kernel_rfl) ?_ _
     have HR4:=Hd hHeld.1
     have HF4:=Hd hHeld.2
     clear hHeld
     go_wp2_with fail
     go_roundw
     case rel=>exact ⟨i+1,g,by go_num,by omega,by omega,HR4.out,HF4.out,OUT.out fun h h3 h4=>by omega⟩
     case measure=>simp [intOf];omega
  ·go_wp2_with fail
   go_end0
   exact ⟨rfl,HF1.out,g0,HR1.out,HP.out,HS.out.part (Nat.le_refl _) (by omega)⟩
end Go.Proofs.YtniljgkkcnekgaaGreatDoor
