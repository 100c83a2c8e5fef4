/- The library's stable sort of values: rows change places. -/
import Derived.Test.YtagkjofpncpcpaaGreatDoorProg
import Derived.Test.YtagkjofpncpcpaaGreatDoorGA
import Derived.Test.YtagkjofpncpcpaaGreatDoorChkq
import Derived.Test.YtagkjofpncpcpaaGreatDoorSmg07
import Derived.Test.YtagkjofpncpcpaaGreatDoorXA
import Derived.Test.YtagkjofpncpcpaaGreatDoorTA
import Derived.StillTailTactics
namespace Go.Proofs.YtagkjofpncpcpaaGreatDoor
namespace Stb
end Stb
open Go.RowKit Stb
set_option maxRecDepth 100000 in
set_option maxHeartbeats 6400000 in
theorem swapv_ex (R:Nat→List Value) (n c pb fb:Nat) (f:Nat→Nat) (tl:List Value) (w:World) (a b m:Nat) (h1:a+m≤b) (h2:b+m≤n) (hn:n≤4294967296) (RW:RowsX R w pb n f tl) :
 Calls Tryz.prog 306 #[.slice (some ⟨pb,0,none⟩) n c,.int .i64 a,.int .i64 b,.int .i64 m,.func (.func 147) #[] #[.pointer (some ⟨fb,0,none⟩)]] w (SrtV R pb n tl (fun g=>g=swapB f a b m) w):=by
 have HR:=Hd RW
 clear RW
 go_enter Tryz.func306,Tryz.ntmps306
 go_wp2_with fail
 go_loopw [10] (fun i wr=>∃ k:Nat,i=.int .i64 k∧k≤m∧RowsX R wr pb n (swapB f a b k) tl∧FB pb w wr) (fun i _=>m-(intOf i).toNat)
 case atStart=>exact ⟨0,rfl,by omega,by rw [swapB_0];exact HR.out,FB.refl _ _⟩
 case round =>
  obtain ⟨k,rfl,hk,hR,hF⟩:=hrel
  obtain ⟨g,hg⟩:∃ g,g=swapB f a b k:=⟨_,rfl⟩
  rw [← hg] at hR
  have HR2:=Hd hR
  have HF:=Hd hF
  have HG:=Hd hg
  clear hR hF HR hg
  by_cases hlt:k<m
  ·have hi:a+k<n:=by omega
   have hj:b+k<n:=by omega
   go_wp2_with fail
   refine wp_region_held_drew (S:=fun _=>True) (by kernel_rfl) trivial (fun hHeld=>?_)
   refine' tk 0 (.slice (some ⟨pb,0,none⟩) n c) rfl rfl (.inl ⟨by rfl,fun u hu=>(by go_simp)⟩) hHeld ?_
   simp only [sq1,sq0]
   refine' tk 1 (.int .i64 ((a:Nat):Int)) rfl rfl (.inl ⟨by rfl,fun u hu=>(by go_simp)⟩) hHeld ?_
   simp only [sq1,sq0]
   refine' tk 2 (.int .i64 ((k:Nat):Int)) rfl rfl (.inl ⟨by rfl,fun u hu=>(by go_simp)⟩) hHeld ?_
   simp only [sq1,sq0]
   refine' tk 3 (.int .i64 ((a+k:Nat):Int)) rfl rfl (.inl ⟨by rfl,fun u hu=>(by go_simp;all_goals first | omega | (rw [IntKind.wrap_i64];omega) | (rw [if_pos (by omega)];congr;all_goals omega))⟩) hHeld ?_
   simp only [sq1,sq0]
   refine' tk 4 (.slice (some ⟨pb,0,none⟩) n c) rfl rfl (.inl ⟨by rfl,fun u hu=>(by go_simp)⟩) hHeld ?_
   simp only [sq1,sq0]
   refine' tk 5 (.int .i64 ((b:Nat):Int)) rfl rfl (.inl ⟨by rfl,fun u hu=>(by go_simp)⟩) hHeld ?_
   simp only [sq1,sq0]
   refine' tk 6 (.int .i64 ((k:Nat):Int)) rfl rfl (.inl ⟨by rfl,fun u hu=>(by go_simp)⟩) hHeld ?_
   simp only [sq1,sq0]
   refine' tk 7 (.int .i64 ((b+k:Nat):Int)) rfl rfl (.inl ⟨by rfl,fun u hu=>(by go_simp;all_goals first | omega | (rw [IntKind.wrap_i64];omega) | (rw [if_pos (by omega)];congr;all_goals omega))⟩) hHeld ?_
   simp only [sq1,sq0]
   refine' tk 8 (.slice (some ⟨pb,0,none⟩) n c) rfl rfl (.inl ⟨by rfl,fun u hu=>(by go_simp)⟩) hHeld ?_
   simp only [sq1,sq0]
   refine' tk 9 (.int .i64 ((b:Nat):Int)) rfl rfl (.inl ⟨by rfl,fun u hu=>(by go_simp)⟩) hHeld ?_
   simp only [sq1,sq0]
   refine' tk 10 (.int .i64 ((k:Nat):Int)) rfl rfl (.inl ⟨by rfl,fun u hu=>(by go_simp)⟩) hHeld ?_
   simp only [sq1,sq0]
   refine' tk 11 (.int .i64 ((b+k:Nat):Int)) rfl rfl (.inl ⟨by rfl,fun u hu=>(by go_simp;all_goals first | omega | (rw [IntKind.wrap_i64];omega) | (rw [if_pos (by omega)];congr;all_goals omega))⟩) hHeld ?_
   simp only [sq1,sq0]
   refine' tk 12 (.pointer (some ⟨pb,(b+k) * 13,none⟩)) rfl rfl (.inl ⟨by rfl,fun u hu=>(by go_simp;all_goals first | omega | (rw [IntKind.wrap_i64];omega) | (rw [if_pos (by omega)];congr;all_goals omega))⟩) hHeld ?_
   simp only [sq1,sq0]
   refine' tk 14 (.slice (some ⟨pb,0,none⟩) n c) rfl rfl (.inl ⟨by rfl,fun u hu=>(by go_simp)⟩) hHeld ?_
   simp only [sq1,sq0]
   refine' tk 15 (.int .i64 ((a:Nat):Int)) rfl rfl (.inl ⟨by rfl,fun u hu=>(by go_simp)⟩) hHeld ?_
   simp only [sq1,sq0]
   refine' tk 16 (.int .i64 ((k:Nat):Int)) rfl rfl (.inl ⟨by rfl,fun u hu=>(by go_simp)⟩) hHeld ?_
   simp only [sq1,sq0]
   refine' tk 17 (.int .i64 ((a+k:Nat):Int)) rfl rfl (.inl ⟨by rfl,fun u hu=>(by go_simp;all_goals first | omega | (rw [IntKind.wrap_i64];omega) | (rw [if_pos (by omega)];congr;all_goals omega))⟩) hHeld ?_
   simp only [sq1,sq0]
   refine' tk 18 (.pointer (some ⟨pb,(a+k) * 13,none⟩)) rfl rfl (.inl ⟨by rfl,fun u hu=>(by go_simp;all_goals first | omega | (rw [IntKind.wrap_i64];omega) | (rw [if_pos (by omega)];congr;all_goals omega))⟩) hHeld ?_
   simp only [sq1,sq0]
   refine wpAnyH_ready (rs:=[13,19]) (by kernel_rfl) (by simp) ?_
   refine AllReadyH.cons rfl (fun K hK=>?_) (AllReadyH.cons rfl (fun K hK=>?_) AllReadyH.nil)
   rotate_left
   rw [if_pos (by rfl)]
   refine wp_load_midL 35 rfl 30 (.tmp 34) rfl pb ((a+k) * 13) rfl (R (g (a+k))) _ (HR2.out.drew.range hi) Tryz.underlying30 rfl (sizeV13 (HR2.out.len _ hi)) ?_
   refine hK.out _ _ trivial (fun _=>?_)
   clear hK K
   simp only [sq1,sq0]
   refine rd1 13 rfl (fun K hK=>?_)
   rw [if_pos (by rfl)]
   refine wp_load_midL 29 rfl 30 (.tmp 28) rfl pb ((b+k) * 13) rfl (R (g (b+k))) _ (HR2.out.drew.range hj) Tryz.underlying30 rfl (sizeV13 (HR2.out.len _ hj)) ?_
   refine hK.out _ _ trivial (fun _=>?_)
   clear hK K
   simp only [sq1,sq0]
   rotate_left
   rw [if_pos (by rfl)]
   refine wp_load_midL 29 rfl 30 (.tmp 28) rfl pb ((b+k) * 13) rfl (R (g (b+k))) _ (HR2.out.drew.range hj) Tryz.underlying30 rfl (sizeV13 (HR2.out.len _ hj)) ?_
   refine hK.out _ _ trivial (fun _=>?_)
   clear hK K
   simp only [sq1,sq0]
   refine rd1 19 rfl (fun K hK=>?_)
   rw [if_pos (by rfl)]
   refine wp_load_midL 35 rfl 30 (.tmp 34) rfl pb ((a+k) * 13) rfl (R (g (a+k))) _ (HR2.out.drew.range hi) Tryz.underlying30 rfl (sizeV13 (HR2.out.len _ hi)) ?_
   refine hK.out _ _ trivial (fun _=>?_)
   clear hK K
   simp only [sq1,sq0]
   all_goals
    refine' tk 20 (.pointer (some ⟨pb,(a+k) * 13,none⟩)) rfl rfl (.inl ⟨by rfl,fun u hu=>(by go_simp;all_goals first | omega | (rw [IntKind.wrap_i64];omega) | (rw [if_pos (by omega)];congr;all_goals omega))⟩) hHeld ?_
    simp only [sq1,sq0]
    refine rd1 21 rfl (fun K hK=>?_)
    rw [if_pos (by rfl)]
    refine wp_store_atL rfl 30 _ _ rfl pb ((a+k) * 13) (R (g (b+k))) rfl rfl 30 (flatV n (fun i'=>R (g i'))++tl) (flatV n (updV (fun i'=>R (g i')) (a+k) (R (g (b+k))))++tl) HR2.out.drew.row (sizeV13 (HR2.out.len _ hj)) (flatV_set HR2.out.len (HR2.out.len _ hj) hi) (fit13 HR2.out.len (HR2.out.len _ hj) hi) (HR2.out.one _ hj) ?_
    refine hK.out _ _ trivial (fun _=>?_)
    clear hK K
    have HS1:=Hd (HR2.out.drew.put hi hj)
    refine' tk 22 (.pointer (some ⟨pb,(b+k) * 13,none⟩)) rfl rfl (.inl ⟨by rfl,fun u hu=>(by go_simp;all_goals first | omega | (rw [IntKind.wrap_i64];omega) | (rw [if_pos (by omega)];congr;all_goals omega))⟩) hHeld ?_
    simp only [sq1,sq0]
    refine rd1 23 rfl (fun K hK=>?_)
    rw [if_pos (by rfl)]
    refine wp_store_atL rfl 30 _ _ rfl pb ((b+k) * 13) (R (g (a+k))) rfl rfl 30 (flatV n (updV (fun i'=>R (g i')) (a+k) (R (g (b+k))))++tl) (flatV n (updV (updV (fun i'=>R (g i')) (a+k) (R (g (b+k)))) (b+k) (R (g (a+k))))++tl) HS1.out.row (sizeV13 (HR2.out.len _ hi)) (flatV_set HS1.out.len (HR2.out.len _ hi) hj) (fit13 HS1.out.len (HR2.out.len _ hi) hj) (HR2.out.one _ hi) ?_
    refine hK.out _ _ trivial (fun _=>?_)
    clear hK K HS1
    have HS2:=Hd (HR2.out.drew.swapped hi hj)
    have HF2:=Hd (HF.out.drew.swappedV n (fun i'=>R (g i')) tl (a+k) (b+k))
    refine wpAnyH_done (by kernel_rfl) ?_ _
    go_wp2_with fail
    go_roundw
    case rel=>exact ⟨k+1,by go_num,by omega,by rw [swapB_s f (a:=a) (b:=b) (n:=k) (by omega),← HG.out];exact HS2.out,HF2.out⟩
    case measure=>simp [intOf];omega
  ·obtain rfl:k=m:=by omega
   go_wp2_with fail
   go_end0
   exact ⟨rfl,HF.out,_,HR2.out,HG.out⟩
set_option maxRecDepth 100000 in
set_option maxHeartbeats 6400000 in
theorem rotv_ex (R:Nat→List Value) (n c pb fb:Nat) (f:Nat→Nat) (tl:List Value) (w:World) (a m b:Nat) (h1:a<m) (h2:m<b) (h3:b≤n) (hn:n≤4294967296) (RW:RowsX R w pb n f tl) :
 Calls Tryz.prog 291 #[.slice (some ⟨pb,0,none⟩) n c,.int .i64 a,.int .i64 m,.int .i64 b,.func (.func 147) #[] #[.pointer (some ⟨fb,0,none⟩)]] w (SrtV R pb n tl (fun g=>g=rot f a m b) w):=by
 have HR:=Hd RW
 clear RW
 go_enter Tryz.func291,Tryz.ntmps291
 go_wp2_with fail
 go_loopw [10,11] (fun x y wr=>∃ (i j:Nat) (g:Nat→Nat),x=.int .i64 i∧y=.int .i64 j∧0<i∧0<j∧i≤m∧m+j≤n∧RowsX R wr pb n g tl∧FB pb w wr∧rot f a m b=rot g (m-i) m (m+j)) (fun x y _=>(intOf x).toNat+(intOf y).toNat)
 case atStart=>exact ⟨m-a,b-m,f,by go_num,by go_num,by omega,by omega,by omega,by omega,HR.out,FB.refl _ _,by rw [show m-(m-a)=a by omega,show m+(b-m)=b by omega]⟩
 case round =>
  obtain ⟨i,j,g,rfl,rfl,hi,hj,him,hjn,hR,hF,hE⟩:=hrel
  have HR2:=Hd hR
  have HF:=Hd hF
  have HE:=Hd hE
  clear hR hF hE HR
  by_cases hlt:j<i
  ·have hne:(i:Int)≠(j:Int):=by omega
   go_wp2_with (go_at_call 306;rw [show (m:Int)-(i:Int)=((m-i:Nat):Int) by omega];refine (swapv_ex R n c pb fb g tl _ (m-i) m j (by omega) (by omega) (by omega) HR2.out).mono ?_;rintro e w2 ⟨rfl,hf2,g2,hr2,hg2⟩;have HR3:=Hd hr2;have HF3:=Hd hf2;have HG:=Hd hg2;clear hr2 hf2 hg2)
   go_roundw
   case rel=>exact ⟨i-j,j,g2,by go_num,rfl,by omega,hj,by omega,hjn,HR3.out,HF.out.trans HF3.out,by rw [HE.out,rot_gt g hlt him,HG.out]⟩
   case measure=>simp [intOf];omega
  ·by_cases hlt2:i<j
   ·have hne:(i:Int)≠(j:Int):=by omega
    go_wp2_with (go_at_call 306;rw [show (m:Int)-(i:Int)=((m-i:Nat):Int) by omega,show (m:Int)+(j:Int)-(i:Int)=((m+j-i:Nat):Int) by omega];refine (swapv_ex R n c pb fb g tl _ (m-i) (m+j-i) i (by omega) (by omega) (by omega) HR2.out).mono ?_;rintro e w2 ⟨rfl,hf2,g2,hr2,hg2⟩;have HR3:=Hd hr2;have HF3:=Hd hf2;have HG:=Hd hg2;clear hr2 hf2 hg2)
    go_roundw
    case rel=>exact ⟨i,j-i,g2,rfl,by go_num,hi,by omega,him,by omega,HR3.out,HF.out.trans HF3.out,by rw [HE.out,rot_lt g hlt2 him,HG.out]⟩
    case measure=>simp [intOf];omega
   ·obtain rfl:i=j:=by omega
    go_wp2_with (go_at_call 306;rw [show (m:Int)-(i:Int)=((m-i:Nat):Int) by omega];refine (swapv_ex R n c pb fb g tl _ (m-i) m i (by omega) (by omega) (by omega) HR2.out).mono ?_;rintro e w2 ⟨rfl,hf2,g2,hr2,hg2⟩;have HR3:=Hd hr2;have HF3:=Hd hf2;have HG:=Hd hg2;clear hr2 hf2 hg2)
    go_end0
    exact ⟨rfl,HF.out.trans HF3.out,_,HR3.out,by rw [HG.out,HE.out,rot_eq g him]⟩
end Go.Proofs.YtagkjofpncpcpaaGreatDoor

/- The library's stable sort of values: the sort by insertion. -/
namespace Go.Proofs.YtagkjofpncpcpaaGreatDoor
open Go.RowKit Stb
set_option maxRecDepth 100000 in
set_option maxHeartbeats 6400000 in
theorem insv_ex (n c pb fb:Nat) (R:Nat→List Value) (F:Nat→Nat→Int) (ht:TriC (fun _=>True) F) (w0:World) (hcm:CmpH R F pb fb w0) (f:Nat→Nat) (tl:List Value) (w:World) (a b:Nat) (h1:a≤b) (h2:b≤n) (hn:n≤4294967296) (RW:RowsX R w pb n f tl) (hw:FB pb w0 w) (tg:∀ x y,a≤x→x<y→y<b→f x<f y) :
 Calls Tryz.prog 265 #[.slice (some ⟨pb,0,none⟩) n c,.int .i64 a,.int .i64 b,.func (.func 147) #[] #[.pointer (some ⟨fb,0,none⟩)]] w (SrtV R pb n tl (fun g=>PermOn a b f g∧SortedOn (leT F) g a b) w):=by
 have HR:=Hd RW
 have HTR:=Hd ht
 have HCM:=Hd hcm
 have HWW:=Hd hw
 have HTG:=Hd tg
 have ordR:=ord_T ht
 clear hw tg
 clear RW
 go_enter Tryz.func265,Tryz.ntmps265
 go_wp2_with fail
 go_loopw [8] (fun x wr=>∃ (i:Nat) (g:Nat→Nat),x=.int .i64 i∧a<i∧i≤b+1∧RowsX R wr pb n g tl∧FB pb w wr∧PermOn a b f g∧SortedOn (leT F) g a i∧Hid (∀ x y,a≤x→x<y→i≤y→y<b→g x<g y)) (fun x _=>b+1-(intOf x).toNat)
 case atStart=>exact ⟨a+1,f,by go_num,by omega,by omega,HR.out,FB.refl _ _,PermOn.refl _ _ _,sorted_one (Nat.le_refl _),Hd fun x y h4 h5 _ h6=>HTG.out x y h4 h5 h6⟩
 case round =>
  obtain ⟨i,g0,rfl,hai,hib,hR,hF,hP,hS,HT0⟩:=hrel
  have HR1:=Hd hR
  have HF1:=Hd hF
  have HP:=Hd hP
  have HS:=Hd hS
  clear hR hF hP hS HR
  by_cases hlt:i<b
  ·go_wp2_with fail
   go_loopw [9] (fun y wr=>∃ (j:Nat) (g:Nat→Nat),y=.int .i64 j∧a≤j∧j≤i∧RowsX R wr pb n g tl∧FB pb w wr∧g=dn1 g0 j i∧∀ h,j≤h→h<i→¬ leT F (g0 h) (g0 i)) (fun y _=>(intOf y).toNat)
   case atStart=>exact ⟨i,g0,rfl,by omega,Nat.le_refl _,HR1.out,HF1.out,by rw [dn1_0],fun h h3 h4=>by omega⟩
   case round =>
    obtain ⟨j,g,rfl,haj,hji,hR,hF,hg,hlo⟩:=hrel
    have HR2:=Hd hR
    have HF:=Hd hF
    have HG:=Hd hg
    have HLO:=Hd hlo
    clear hR hF hg hlo HR1 HF1
    have OUT:=Hd (show (∀ h,a≤h→h<j→leT F (g0 h) (g0 i))→PermOn a b f g∧SortedOn (leT F) g a (i+1)∧Hid (∀ x y,a≤x→x<y→i+1≤y→y<b→g x<g y) from fun hhi=>by
     have:=dn1_sorted ordR haj hji HS.out hhi HLO.out
     rw [HG.out]
     exact ⟨HP.out.trans (this.1.wide (Nat.le_refl _) (by omega)),this.2,Hd fun x y h4 h5 h6 h7=>dn1_tags haj hji HT0.out h4 h5 h6 h7⟩)
    by_cases hja:a<j
    ·obtain ⟨q,rfl⟩:∃ q,j=q+1:=⟨j-1,by omega⟩
     have hi:q+1<n:=by omega
     have hj:q<n:=by omega
     obtain ⟨x,hx⟩:∃ x,x=F (g (q+1)) (g q):=⟨_,rfl⟩
     have HX:=Hd hx
     clear hx
     have e1:g (q+1)=g0 i:=by rw [HG.out];unfold dn1;rw [if_pos ⟨rfl,hji⟩]
     have e2:g q=g0 q:=by rw [HG.out];unfold dn1;rw [if_neg (by omega),if_neg (by omega)]
     have E1:=Hd e1
     have E2:=Hd e2
     clear e1 e2
     go_wp2_with fail
     refine wp_region_held_drew (S:=fun u=>RowsX R u pb n g tl∧FB pb w u) (by kernel_rfl) ⟨HR2.out.drew,HF.out.drew⟩ (fun hHeld=>?_)
     refine' tk 0 (.int .i64 ((q+1:Nat):Int)) rfl rfl (.inl ⟨by rfl,fun u hu=>(by go_simp)⟩) hHeld ?_
     simp only [sq1,sq0]
     refine' tk 1 (.int .i64 ((a:Nat):Int)) rfl rfl (.inl ⟨by rfl,fun u hu=>(by go_simp)⟩) hHeld ?_
     simp only [sq1,sq0]
     refine' tk 2 (.bool (true)) rfl rfl (.inl ⟨by rfl,fun u hu=>(by go_simp;all_goals first | omega | (rw [IntKind.wrap_i64];omega) | (rw [if_pos (by omega)];congr;all_goals omega))⟩) hHeld ?_
     simp only [sq1,sq0]
     refine' tk 3 (.bool (true)) rfl rfl (.inl ⟨by rfl,fun u hu=>(by go_simp)⟩) hHeld ?_
     simp only [sq1,sq0]
     refine' tk 4 (.func (.func 147) #[] #[.pointer (some ⟨fb,0,none⟩)]) rfl rfl (.inl ⟨by rfl,fun u hu=>(by go_simp)⟩) hHeld ?_
     simp only [sq1,sq0]
     refine' tk 5 (.slice (some ⟨pb,0,none⟩) n c) rfl rfl (.inl ⟨by rfl,fun u hu=>(by go_simp)⟩) hHeld ?_
     simp only [sq1,sq0]
     refine' tk 6 (.int .i64 ((q+1:Nat):Int)) rfl rfl (.inl ⟨by rfl,fun u hu=>(by go_simp)⟩) hHeld ?_
     simp only [sq1,sq0]
     refine' tk 7 (.pointer (some ⟨pb,(q+1) * 13,none⟩)) rfl rfl (.inl ⟨by rfl,fun u hu=>(by go_simp;all_goals first | omega | (rw [IntKind.wrap_i64];omega) | (rw [if_pos (by omega)];congr;all_goals omega))⟩) hHeld ?_
     simp only [sq1,sq0]
     refine' tk 8 (.agg (R (g (q+1))).toArray) rfl rfl (yieldsIf_load_mid (by kernel_rfl) 30 _ rfl pb ((q+1) * 13) rfl (R (g (q+1))) _ (fun u hu=>hu.1.range hi) Tryz.underlying30 rfl (sizeV13 (HR2.out.len _ hi))) hHeld ?_
     simp only [sq1,sq0]
     refine' tk 9 (.slice (some ⟨pb,0,none⟩) n c) rfl rfl (.inl ⟨by rfl,fun u hu=>(by go_simp)⟩) hHeld ?_
     simp only [sq1,sq0]
     refine' tk 10 (.int .i64 ((q+1:Nat):Int)) rfl rfl (.inl ⟨by rfl,fun u hu=>(by go_simp)⟩) hHeld ?_
     simp only [sq1,sq0]
     refine' tk 11 (.int .i64 ((q:Nat):Int)) rfl rfl (.inl ⟨by rfl,fun u hu=>(by go_simp;all_goals first | omega | (rw [IntKind.wrap_i64];omega) | (rw [if_pos (by omega)];congr;all_goals omega))⟩) hHeld ?_
     simp only [sq1,sq0]
     refine' tk 12 (.pointer (some ⟨pb,q * 13,none⟩)) rfl rfl (.inl ⟨by rfl,fun u hu=>(by go_simp;all_goals first | omega | (rw [IntKind.wrap_i64];omega) | (rw [if_pos (by omega)];congr;all_goals omega))⟩) hHeld ?_
     simp only [sq1,sq0]
     refine' tk 13 (.agg (R (g q)).toArray) rfl rfl (yieldsIf_load_mid (by kernel_rfl) 30 _ rfl pb (q * 13) rfl (R (g q)) _ (fun u hu=>hu.1.range hj) Tryz.underlying30 rfl (sizeV13 (HR2.out.len _ hj))) hHeld ?_
     simp only [sq1,sq0]
     refine rd1 14 rfl (fun K hK=>?_)
     rw [if_pos (by rfl)]
     go_simp
     refine (HCM.out (g (q+1)) (g q) _ (HWW.out.trans hHeld.2)).mono ?_
     rintro e u1 ⟨rfl,hbC⟩
     rw [← HX.out]
     refine hK.out _ _ ⟨hHeld.1.fb hbC,hHeld.2.trans (FB.of_below hbC)⟩ (fun hHeld1=>?_)
     clear hK K hbC hHeld
     have hHeld:=hHeld1
     clear hHeld1
     refine' tk 15 (.bool (decide (x<0))) rfl rfl (.inl ⟨by rfl,fun u hu=>(by go_simp)⟩) hHeld ?_
     simp only [sq1,sq0]
     refine' tk 16 (.bool (decide (x<0))) rfl rfl (.inl ⟨by rfl,fun u hu=>(by go_simp)⟩) hHeld ?_
     simp only [sq1,sq0]
     refine wpAnyH_done (by kernel_rfl) ?_ _
     have HR4:=Hd hHeld.1
     have HF4:=Hd hHeld.2
     clear hHeld
     by_cases hc:x<0
     ·go_wp2_with fail
      refine wp_region_held_drew (S:=fun _=>True) (by kernel_rfl) trivial (fun hHeld=>?_)
      refine' tk 0 (.slice (some ⟨pb,0,none⟩) n c) rfl rfl (.inl ⟨by rfl,fun u hu=>(by go_simp)⟩) hHeld ?_
      simp only [sq1,sq0]
      refine' tk 1 (.int .i64 ((q+1:Nat):Int)) rfl rfl (.inl ⟨by rfl,fun u hu=>(by go_simp)⟩) hHeld ?_
      simp only [sq1,sq0]
      refine' tk 2 (.slice (some ⟨pb,0,none⟩) n c) rfl rfl (.inl ⟨by rfl,fun u hu=>(by go_simp)⟩) hHeld ?_
      simp only [sq1,sq0]
      refine' tk 3 (.int .i64 ((q+1:Nat):Int)) rfl rfl (.inl ⟨by rfl,fun u hu=>(by go_simp)⟩) hHeld ?_
      simp only [sq1,sq0]
      refine' tk 4 (.int .i64 ((q:Nat):Int)) rfl rfl (.inl ⟨by rfl,fun u hu=>(by go_simp;all_goals first | omega | (rw [IntKind.wrap_i64];omega) | (rw [if_pos (by omega)];congr;all_goals omega))⟩) hHeld ?_
      simp only [sq1,sq0]
      refine' tk 5 (.slice (some ⟨pb,0,none⟩) n c) rfl rfl (.inl ⟨by rfl,fun u hu=>(by go_simp)⟩) hHeld ?_
      simp only [sq1,sq0]
      refine' tk 6 (.int .i64 ((q+1:Nat):Int)) rfl rfl (.inl ⟨by rfl,fun u hu=>(by go_simp)⟩) hHeld ?_
      simp only [sq1,sq0]
      refine' tk 7 (.int .i64 ((q:Nat):Int)) rfl rfl (.inl ⟨by rfl,fun u hu=>(by go_simp;all_goals first | omega | (rw [IntKind.wrap_i64];omega) | (rw [if_pos (by omega)];congr;all_goals omega))⟩) hHeld ?_
      simp only [sq1,sq0]
      refine' tk 8 (.pointer (some ⟨pb,q * 13,none⟩)) rfl rfl (.inl ⟨by rfl,fun u hu=>(by go_simp;all_goals first | omega | (rw [IntKind.wrap_i64];omega) | (rw [if_pos (by omega)];congr;all_goals omega))⟩) hHeld ?_
      simp only [sq1,sq0]
      refine' tk 10 (.slice (some ⟨pb,0,none⟩) n c) rfl rfl (.inl ⟨by rfl,fun u hu=>(by go_simp)⟩) hHeld ?_
      simp only [sq1,sq0]
      refine' tk 11 (.int .i64 ((q+1:Nat):Int)) rfl rfl (.inl ⟨by rfl,fun u hu=>(by go_simp)⟩) hHeld ?_
      simp only [sq1,sq0]
      refine' tk 12 (.pointer (some ⟨pb,(q+1) * 13,none⟩)) rfl rfl (.inl ⟨by rfl,fun u hu=>(by go_simp;all_goals first | omega | (rw [IntKind.wrap_i64];omega) | (rw [if_pos (by omega)];congr;all_goals omega))⟩) hHeld ?_
      simp only [sq1,sq0]
      refine wpAnyH_ready (rs:=[9,13]) (by kernel_rfl) (by simp) ?_
      refine AllReadyH.cons rfl (fun K hK=>?_) (AllReadyH.cons rfl (fun K hK=>?_) AllReadyH.nil)
      rotate_left
      rw [if_pos (by rfl)]
      refine wp_load_midL 50 rfl 30 (.tmp 49) rfl pb ((q+1) * 13) rfl (R (g (q+1))) _ (HR4.out.drew.range hi) Tryz.underlying30 rfl (sizeV13 (HR4.out.len _ hi)) ?_
      refine hK.out _ _ trivial (fun _=>?_)
      clear hK K
      simp only [sq1,sq0]
      refine rd1 9 rfl (fun K hK=>?_)
      rw [if_pos (by rfl)]
      refine wp_load_midL 46 rfl 30 (.tmp 45) rfl pb (q * 13) rfl (R (g q)) _ (HR4.out.drew.range hj) Tryz.underlying30 rfl (sizeV13 (HR4.out.len _ hj)) ?_
      refine hK.out _ _ trivial (fun _=>?_)
      clear hK K
      simp only [sq1,sq0]
      rotate_left
      rw [if_pos (by rfl)]
      refine wp_load_midL 46 rfl 30 (.tmp 45) rfl pb (q * 13) rfl (R (g q)) _ (HR4.out.drew.range hj) Tryz.underlying30 rfl (sizeV13 (HR4.out.len _ hj)) ?_
      refine hK.out _ _ trivial (fun _=>?_)
      clear hK K
      simp only [sq1,sq0]
      refine rd1 13 rfl (fun K hK=>?_)
      rw [if_pos (by rfl)]
      refine wp_load_midL 50 rfl 30 (.tmp 49) rfl pb ((q+1) * 13) rfl (R (g (q+1))) _ (HR4.out.drew.range hi) Tryz.underlying30 rfl (sizeV13 (HR4.out.len _ hi)) ?_
      refine hK.out _ _ trivial (fun _=>?_)
      clear hK K
      simp only [sq1,sq0]
      all_goals
       refine' tk 14 (.pointer (some ⟨pb,(q+1) * 13,none⟩)) rfl rfl (.inl ⟨by rfl,fun u hu=>(by go_simp;all_goals first | omega | (rw [IntKind.wrap_i64];omega) | (rw [if_pos (by omega)];congr;all_goals omega))⟩) hHeld ?_
       simp only [sq1,sq0]
       refine rd1 15 rfl (fun K hK=>?_)
       rw [if_pos (by rfl)]
       refine wp_store_atL rfl 30 _ _ rfl pb ((q+1) * 13) (R (g q)) rfl rfl 30 (flatV n (fun i'=>R (g i'))++tl) (flatV n (updV (fun i'=>R (g i')) (q+1) (R (g q)))++tl) HR4.out.drew.row (sizeV13 (HR4.out.len _ hj)) (flatV_set HR4.out.len (HR4.out.len _ hj) hi) (fit13 HR4.out.len (HR4.out.len _ hj) hi) (HR4.out.one _ hj) ?_
       refine hK.out _ _ trivial (fun _=>?_)
       clear hK K
       have HS1:=Hd (HR4.out.drew.put hi hj)
       refine' tk 16 (.pointer (some ⟨pb,q * 13,none⟩)) rfl rfl (.inl ⟨by rfl,fun u hu=>(by go_simp;all_goals first | omega | (rw [IntKind.wrap_i64];omega) | (rw [if_pos (by omega)];congr;all_goals omega))⟩) hHeld ?_
       simp only [sq1,sq0]
       refine rd1 17 rfl (fun K hK=>?_)
       rw [if_pos (by rfl)]
       refine wp_store_atL rfl 30 _ _ rfl pb (q * 13) (R (g (q+1))) rfl rfl 30 (flatV n (updV (fun i'=>R (g i')) (q+1) (R (g q)))++tl) (flatV n (updV (updV (fun i'=>R (g i')) (q+1) (R (g q))) q (R (g (q+1))))++tl) HS1.out.row (sizeV13 (HR4.out.len _ hi)) (flatV_set HS1.out.len (HR4.out.len _ hi) hj) (fit13 HS1.out.len (HR4.out.len _ hi) hj) (HR4.out.one _ hi) ?_
       refine hK.out _ _ trivial (fun _=>?_)
       clear hK K HS1
       have HS2:=Hd (HR4.out.drew.swapped hi hj)
       have HF2:=Hd (HF4.out.drew.swappedV n (fun i'=>R (g i')) tl (q+1) q)
       refine wpAnyH_done (by kernel_rfl) ?_ _
       go_wp2_with fail
       go_roundw
       case rel=>exact ⟨q,_,by go_num,by omega,by omega,HS2.out,HF2.out,by rw [HG.out,dn1_s g0 (i:=q) (m:=i) (by omega)],fun h h3 h4=>by
        rcases Nat.lt_or_ge h (q+1) with h5 | h5
        ·obtain rfl:h=q:=by omega
         rw [← E2.out,← E1.out]
         exact leV_yes HTR.out (by rw [E1.out,E2.out];exact HT0.out _ i (by omega) (by omega) (Nat.le_refl _) hlt) HX.out hc
        ·exact HLO.out h h5 h4⟩
       case measure=>simp [intOf]
     ·have hx0:=Hd (show leT F (g0 q) (g0 i) from by rw [← E2.out,← E1.out];exact leV_no HTR.out (by rw [E1.out,E2.out];exact HT0.out _ i (by omega) (by omega) (Nat.le_refl _) hlt) HX.out hc)
      go_wp2_with fail
      go_roundw
      case rel=>exact ⟨i+1,g,by go_num,by omega,by omega,HR4.out,HF4.out,OUT.out fun h h3 h4=>by
       rcases Nat.lt_or_ge h q with h5 | h5
       ·exact ordR.trans _ _ _ (HS.out h q h3 h5 (by omega)) hx0.out
       ·obtain rfl:h=q:=by omega
        exact hx0.out⟩
      case measure=>simp [intOf];omega
    ·obtain rfl:j=a:=by omega
     go_wp2_with fail
     refine wp_region_held_drew (S:=fun u=>RowsX R u pb n g tl∧FB pb w u) (by kernel_rfl) ⟨HR2.out.drew,HF.out.drew⟩ (fun hHeld=>?_)
     refine' tk 0 (.int .i64 ((j:Nat):Int)) rfl rfl (.inl ⟨by rfl,fun u hu=>(by go_simp)⟩) hHeld ?_
     simp only [sq1,sq0]
     refine' tk 1 (.int .i64 ((j:Nat):Int)) rfl rfl (.inl ⟨by rfl,fun u hu=>(by go_simp)⟩) hHeld ?_
     simp only [sq1,sq0]
     refine' tk 2 (.bool (false)) rfl rfl (.inl ⟨by rfl,fun u hu=>(by go_simp;all_goals first | omega | (rw [IntKind.wrap_i64];omega) | (rw [if_pos (by omega)];congr;all_goals omega))⟩) hHeld ?_
     simp only [sq1,sq0]
     refine' tk 3 (.bool (false)) rfl rfl (.inl ⟨by rfl,fun u hu=>(by go_simp)⟩) hHeld ?_
     simp only [sq1,sq0]
     refine' tk 4 undef rfl rfl (.inr ⟨by rfl,rfl⟩) hHeld ?_
     simp only [sq1,sq0]
     refine' tk 5 undef rfl rfl (.inr ⟨by rfl,rfl⟩) hHeld ?_
     simp only [sq1,sq0]
     refine' tk 6 undef rfl rfl (.inr ⟨by rfl,rfl⟩) hHeld ?_
     simp only [sq1,sq0]
     refine' tk 7 undef rfl rfl (.inr ⟨by rfl,rfl⟩) hHeld ?_
     simp only [sq1,sq0]
     refine' tk 8 undef rfl rfl (.inr ⟨by rfl,rfl⟩) hHeld ?_
     simp only [sq1,sq0]
     refine' tk 9 undef rfl rfl (.inr ⟨by rfl,rfl⟩) hHeld ?_
     simp only [sq1,sq0]
     refine' tk 10 undef rfl rfl (.inr ⟨by rfl,rfl⟩) hHeld ?_
     simp only [sq1,sq0]
     refine' tk 11 undef rfl rfl (.inr ⟨by rfl,rfl⟩) hHeld ?_
     simp only [sq1,sq0]
     refine' tk 12 undef rfl rfl (.inr ⟨by rfl,rfl⟩) hHeld ?_
     simp only [sq1,sq0]
     refine' tk 13 undef rfl rfl (.inr ⟨by rfl,rfl⟩) hHeld ?_
     simp only [sq1,sq0]
     refine' tk 14 undef rfl rfl (.inr ⟨by rfl,rfl⟩) hHeld ?_
     simp only [sq1,sq0]
     refine' tk 15 undef rfl rfl (.inr ⟨by rfl,rfl⟩) hHeld ?_
     simp only [sq1,sq0]
     refine' tk 16 (.bool (false)) rfl rfl (.inl ⟨by rfl,fun u hu=>(by go_simp)⟩) hHeld ?_
     simp only [sq1,sq0]
     refine wpAnyH_done (by kernel_rfl) ?_ _
     have HR4:=Hd hHeld.1
     have HF4:=Hd hHeld.2
     clear hHeld
     go_wp2_with fail
     go_roundw
     case rel=>exact ⟨i+1,g,by go_num,by omega,by omega,HR4.out,HF4.out,OUT.out fun h h3 h4=>by omega⟩
     case measure=>simp [intOf];omega
  ·go_wp2_with fail
   go_end0
   exact ⟨rfl,HF1.out,g0,HR1.out,HP.out,HS.out.part (Nat.le_refl _) (by omega)⟩
end Go.Proofs.YtagkjofpncpcpaaGreatDoor
