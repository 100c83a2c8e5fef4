/- The library's stable sort of fields by their keys: one thing merged into its place. -/
import Derived.Test.YtniljgkkcnekgaaGreatDoorProg
import Derived.Test.YtniljgkkcnekgaaGreatDoorGA
import Derived.Test.YtniljgkkcnekgaaGreatDoorGB
import Derived.Test.YtniljgkkcnekgaaGreatDoorGK
import Derived.Test.YtniljgkkcnekgaaGreatDoorSA
import Derived.Test.YtniljgkkcnekgaaGreatDoorSB
import Derived.Deep.DeepCutAuto
namespace Go.Proofs.YtniljgkkcnekgaaGreatDoor
namespace Stb
end Stb
open Go.RowKit Stb
set_option maxRecDepth 100000 in
set_option maxHeartbeats 6400000 in
theorem syma_ex (n c pb:Nat) (f:Nat→List Value) (tl:List Value) (w:World) (a m b:Nat) (h1:m=a+1) (h2:m<b) (h3:b≤n) (hn:n≤4294967296) (S:SortedOn LeR f m b) (R:RowsF w pb n f tl) :
 Calls Tryz.prog 170 #[.slice (some ⟨pb,0,none⟩) n c,.int .i64 a,.int .i64 m,.int .i64 b,.func (.func 140) #[] #[]] w (SrtR pb n tl (fun g=>PermOn a b f g∧SortedOn LeR g a b) w):=by
 have HR:=Hd R
 have HS:=Hd S
 have H1:=Hd h1
 clear R S
 have hm1:((m:Int)-(a:Int)==1)=true:=by simp;omega
 have ha:a<n:=by omega
 have hma:a<m:=by omega
 clear h1
 go_enter Tryz.func170,Tryz.ntmps170
 go_wp2_with fail
 go_loopw [10,11] (fun x y wr=>∃ i j:Nat,x=.int .i64 i∧y=.int .i64 j∧m≤i∧i≤j∧j≤b∧RowsF wr pb n f tl∧FB pb w wr∧(∀ h,m≤h→h<i→¬ LeR (f a) (f h))∧∀ h,j≤h→h<b→LeR (f a) (f h)) (fun x y _=>(intOf y).toNat-(intOf x).toNat)
 case atStart=>exact ⟨m,b,rfl,rfl,by omega,by omega,by omega,HR.out,FB.refl _ _,fun h h4 h5=>by omega,fun h h4 h5=>by omega⟩
 case round =>
  obtain ⟨i,j,rfl,rfl,hi,hij,hj,hR,hF,hlo,hhi⟩:=hrel
  have HR1:=Hd hR
  have HF:=Hd hF
  have HLO:=Hd hlo
  have HHI:=Hd hhi
  clear hR hF hlo hhi HR
  by_cases hlt:i<j
  ·obtain ⟨h,hh0⟩:∃ h,h=(i+j) / 2:=⟨_,rfl⟩
   have hh:h<n:=by omega
   have hih:i≤h:=by omega
   have hhj:h<j:=by omega
   have e0:((i:Int)+(j:Int)) / 2=(h:Int):=by omega
   have E0:=Hd e0
   clear hh0 e0
   obtain ⟨x,hx⟩:∃ x,x=cmpS (keyR (f h)) (keyR (f a)):=⟨_,rfl⟩
   have HX:=Hd hx
   clear hx
   go_wp2_with fail
   rw [E0.out]
   refine wp_region_held_drew (S:=fun u=>RowsF u pb n f tl∧FB pb w u) (by kernel_rfl) ⟨HR1.out.drew,HF.out.drew⟩ (fun hHeld=>?_)
   refine' tk 0 (.func (.func 140) #[] #[]) rfl rfl (.inl ⟨by rfl,fun u hu=>(by go_simp)⟩) hHeld ?_
   simp only [sq1,sq0]
   refine' tk 1 (.slice (some ⟨pb,0,none⟩) n c) rfl rfl (.inl ⟨by rfl,fun u hu=>(by go_simp)⟩) hHeld ?_
   simp only [sq1,sq0]
   refine' tk 2 (.int .i64 ((h:Nat):Int)) rfl rfl (.inl ⟨by rfl,fun u hu=>(by go_simp)⟩) hHeld ?_
   simp only [sq1,sq0]
   refine' tk 3 (.pointer (some ⟨pb,h * 14,none⟩)) rfl rfl (.inl ⟨by rfl,fun u hu=>(by go_simp;all_goals first | omega | (rw [IntKind.wrap_i64];omega) | (rw [if_pos (by omega)];congr;all_goals omega))⟩) hHeld ?_
   simp only [sq1,sq0]
   refine' tk 4 (.agg (f h).toArray) rfl rfl (yieldsIf_load_mid (by kernel_rfl) 76 _ rfl pb (h * 14) rfl (f h) _ (fun u hu=>hu.1.range hh) Tryz.underlying76 rfl (sizeFLD14 (HR1.out.len _ hh))) hHeld ?_
   simp only [sq1,sq0]
   refine' tk 5 (.slice (some ⟨pb,0,none⟩) n c) rfl rfl (.inl ⟨by rfl,fun u hu=>(by go_simp)⟩) hHeld ?_
   simp only [sq1,sq0]
   refine' tk 6 (.int .i64 ((a:Nat):Int)) rfl rfl (.inl ⟨by rfl,fun u hu=>(by go_simp)⟩) hHeld ?_
   simp only [sq1,sq0]
   refine' tk 7 (.pointer (some ⟨pb,a * 14,none⟩)) rfl rfl (.inl ⟨by rfl,fun u hu=>(by go_simp;all_goals first | omega | (rw [IntKind.wrap_i64];omega) | (rw [if_pos (by omega)];congr;all_goals omega))⟩) hHeld ?_
   simp only [sq1,sq0]
   refine' tk 8 (.agg (f a).toArray) rfl rfl (yieldsIf_load_mid (by kernel_rfl) 76 _ rfl pb (a * 14) rfl (f a) _ (fun u hu=>hu.1.range ha) Tryz.underlying76 rfl (sizeFLD14 (HR1.out.len _ ha))) hHeld ?_
   simp only [sq1,sq0]
   refine rd1 9 rfl (fun K hK=>?_)
   rw [if_pos (by rfl)]
   go_simp
   refine (keycmp_ex (f h) (f a) _ _ (HR1.out.key _ hh) (HR1.out.key _ ha) _).mono ?_
   rintro e u1 ⟨rfl,hbC⟩
   rw [← HX.out]
   refine hK.out _ _ ⟨hHeld.1.fb hbC,hHeld.2.trans (FB.of_below hbC)⟩ (fun hHeld1=>?_)
   clear hK K hbC hHeld
   have hHeld:=hHeld1
   clear hHeld1
   refine' tk 10 (.bool (decide (x<0))) rfl rfl (.inl ⟨by rfl,fun u hu=>(by go_simp)⟩) hHeld ?_
   simp only [sq1,sq0]
   refine wpAnyH_done (by kernel_rfl) ?_ _
   have HR4:=Hd hHeld.1
   have HF4:=Hd hHeld.2
   clear hHeld
   by_cases hc:x<0
   ·have LO2:=Hd (show ∀ h',m≤h'→h'<h+1→¬ LeR (f a) (f h') from fun h' h4 h5 hl=>by
     rcases Nat.lt_or_ge h' i with h6 | h6
     ·exact HLO.out h' h4 h6 hl
     ·exact leR_yes HX.out hc (ordR.trans _ _ _ hl (HS.out.le ordR h4 (by omega) (by omega))))
    go_wp2_with fail
    go_roundw
    case rel=>exact ⟨h+1,j,by go_num,rfl,by omega,by omega,hj,HR4.out,HF4.out,LO2.out,HHI.out⟩
    case measure=>simp [intOf];omega
   ·have HI2:=Hd (show ∀ h',h≤h'→h'<b→LeR (f a) (f h') from fun h' h4 h5=>ordR.trans _ _ _ (leR_no HX.out hc) (HS.out.le ordR (by omega) h4 h5))
    go_wp2_with fail
    go_roundw
    case rel=>exact ⟨i,h,rfl,by go_num,hi,by omega,by omega,HR4.out,HF4.out,HLO.out,HI2.out⟩
    case measure=>simp [intOf];omega
  ·obtain rfl:i=j:=by omega
   go_wp2_with fail
   go_loopw [13] (fun x wr=>∃ (k:Nat) (g:Nat→List Value),x=.int .i64 k∧a≤k∧k+1≤i∧RowsF wr pb n g tl∧FB pb w wr∧g=up1 f a (k+1)) (fun x _=>i-(intOf x).toNat)
   case atStart=>exact ⟨a,f,rfl,Nat.le_refl _,by omega,HR1.out,HF.out,(up1_0 f a).symm⟩
   case round =>
    obtain ⟨k,g,rfl,hak,hki,hR,hF,hg⟩:=hrel
    have HR2:=Hd hR
    have HF2:=Hd hF
    have HG:=Hd hg
    clear hR hF hg HR1 HF
    have hk:k<n:=by omega
    by_cases hlt:k+1<i
    ·have hk1:k+1<n:=by omega
     go_wp2_with fail
     refine wp_region_held_drew (S:=fun _=>True) (by kernel_rfl) trivial (fun hHeld=>?_)
     refine' tk 0 (.slice (some ⟨pb,0,none⟩) n c) rfl rfl (.inl ⟨by rfl,fun u hu=>(by go_simp)⟩) hHeld ?_
     simp only [sq1,sq0]
     refine' tk 1 (.int .i64 ((k:Nat):Int)) rfl rfl (.inl ⟨by rfl,fun u hu=>(by go_simp)⟩) hHeld ?_
     simp only [sq1,sq0]
     refine' tk 2 (.slice (some ⟨pb,0,none⟩) n c) rfl rfl (.inl ⟨by rfl,fun u hu=>(by go_simp)⟩) hHeld ?_
     simp only [sq1,sq0]
     refine' tk 3 (.int .i64 ((k:Nat):Int)) rfl rfl (.inl ⟨by rfl,fun u hu=>(by go_simp)⟩) hHeld ?_
     simp only [sq1,sq0]
     refine' tk 4 (.int .i64 ((k+1:Nat):Int)) rfl rfl (.inl ⟨by rfl,fun u hu=>(by go_simp;all_goals first | omega | (rw [IntKind.wrap_i64];omega) | (rw [if_pos (by omega)];congr;all_goals omega))⟩) hHeld ?_
     simp only [sq1,sq0]
     refine' tk 5 (.slice (some ⟨pb,0,none⟩) n c) rfl rfl (.inl ⟨by rfl,fun u hu=>(by go_simp)⟩) hHeld ?_
     simp only [sq1,sq0]
     refine' tk 6 (.int .i64 ((k:Nat):Int)) rfl rfl (.inl ⟨by rfl,fun u hu=>(by go_simp)⟩) hHeld ?_
     simp only [sq1,sq0]
     refine' tk 7 (.int .i64 ((k+1:Nat):Int)) rfl rfl (.inl ⟨by rfl,fun u hu=>(by go_simp;all_goals first | omega | (rw [IntKind.wrap_i64];omega) | (rw [if_pos (by omega)];congr;all_goals omega))⟩) hHeld ?_
     simp only [sq1,sq0]
     refine' tk 8 (.pointer (some ⟨pb,(k+1) * 14,none⟩)) rfl rfl (.inl ⟨by rfl,fun u hu=>(by go_simp;all_goals first | omega | (rw [IntKind.wrap_i64];omega) | (rw [if_pos (by omega)];congr;all_goals omega))⟩) hHeld ?_
     simp only [sq1,sq0]
     refine' tk 10 (.slice (some ⟨pb,0,none⟩) n c) rfl rfl (.inl ⟨by rfl,fun u hu=>(by go_simp)⟩) hHeld ?_
     simp only [sq1,sq0]
     refine' tk 11 (.int .i64 ((k:Nat):Int)) rfl rfl (.inl ⟨by rfl,fun u hu=>(by go_simp)⟩) hHeld ?_
     simp only [sq1,sq0]
     refine' tk 12 (.pointer (some ⟨pb,k * 14,none⟩)) rfl rfl (.inl ⟨by rfl,fun u hu=>(by go_simp;all_goals first | omega | (rw [IntKind.wrap_i64];omega) | (rw [if_pos (by omega)];congr;all_goals omega))⟩) hHeld ?_
     simp only [sq1,sq0]
     refine wpAnyH_ready (rs:=[9,13]) (by kernel_rfl) (by simp) ?_
     refine AllReadyH.cons rfl (fun K hK=>?_) (AllReadyH.cons rfl (fun K hK=>?_) AllReadyH.nil)
     rotate_left
     rw [if_pos (by rfl)]
     refine wp_load_midL 74 rfl 76 (.tmp 73) rfl pb (k * 14) rfl (g k) _ (HR2.out.drew.range hk) Tryz.underlying76 rfl (sizeFLD14 (HR2.out.len _ hk)) ?_
     refine hK.out _ _ trivial (fun _=>?_)
     clear hK K
     simp only [sq1,sq0]
     refine rd1 9 rfl (fun K hK=>?_)
     rw [if_pos (by rfl)]
     refine wp_load_midL 70 rfl 76 (.tmp 69) rfl pb ((k+1) * 14) rfl (g (k+1)) _ (HR2.out.drew.range hk1) Tryz.underlying76 rfl (sizeFLD14 (HR2.out.len _ hk1)) ?_
     refine hK.out _ _ trivial (fun _=>?_)
     clear hK K
     simp only [sq1,sq0]
     rotate_left
     rw [if_pos (by rfl)]
     refine wp_load_midL 70 rfl 76 (.tmp 69) rfl pb ((k+1) * 14) rfl (g (k+1)) _ (HR2.out.drew.range hk1) Tryz.underlying76 rfl (sizeFLD14 (HR2.out.len _ hk1)) ?_
     refine hK.out _ _ trivial (fun _=>?_)
     clear hK K
     simp only [sq1,sq0]
     refine rd1 13 rfl (fun K hK=>?_)
     rw [if_pos (by rfl)]
     refine wp_load_midL 74 rfl 76 (.tmp 73) rfl pb (k * 14) rfl (g k) _ (HR2.out.drew.range hk) Tryz.underlying76 rfl (sizeFLD14 (HR2.out.len _ hk)) ?_
     refine hK.out _ _ trivial (fun _=>?_)
     clear hK K
     simp only [sq1,sq0]
     all_goals
      refine' tk 14 (.pointer (some ⟨pb,k * 14,none⟩)) rfl rfl (.inl ⟨by rfl,fun u hu=>(by go_simp;all_goals first | omega | (rw [IntKind.wrap_i64];omega) | (rw [if_pos (by omega)];congr;all_goals omega))⟩) hHeld ?_
      simp only [sq1,sq0]
      refine rd1 15 rfl (fun K hK=>?_)
      rw [if_pos (by rfl)]
      refine wp_store_atL rfl 76 _ _ rfl pb (k * 14) (g (k+1)) rfl rfl 76 (flatR n g++tl) (flatR n (upd g k (g (k+1)))++tl) HR2.out.drew.row (sizeFLD14 (HR2.out.len _ hk1)) (flatR_set HR2.out.len (HR2.out.len _ hk1) hk) (fit14 HR2.out.len (HR2.out.len _ hk1) hk) (HR2.out.one _ hk1) ?_
      refine hK.out _ _ trivial (fun _=>?_)
      clear hK K
      have HS1:=Hd (HR2.out.drew.put hk hk1)
      refine' tk 16 (.pointer (some ⟨pb,(k+1) * 14,none⟩)) rfl rfl (.inl ⟨by rfl,fun u hu=>(by go_simp;all_goals first | omega | (rw [IntKind.wrap_i64];omega) | (rw [if_pos (by omega)];congr;all_goals omega))⟩) hHeld ?_
      simp only [sq1,sq0]
      refine rd1 17 rfl (fun K hK=>?_)
      rw [if_pos (by rfl)]
      refine wp_store_atL rfl 76 _ _ rfl pb ((k+1) * 14) (g k) rfl rfl 76 (flatR n (upd g k (g (k+1)))++tl) (flatR n (upd (upd g k (g (k+1))) (k+1) (g k))++tl) HS1.out.row (sizeFLD14 (HR2.out.len _ hk)) (flatR_set HS1.out.len (HR2.out.len _ hk) hk1) (fit14 HS1.out.len (HR2.out.len _ hk) hk1) (HR2.out.one _ hk) ?_
      refine hK.out _ _ trivial (fun _=>?_)
      clear hK K HS1
      have HS2:=Hd (HR2.out.drew.swapped hk hk1)
      have HF3:=Hd (HF2.out.drew.swapped n g tl k (k+1))
      refine wpAnyH_done (by kernel_rfl) ?_ _
      go_wp2_with fail
      go_roundw
      case rel=>exact ⟨k+1,_,by go_num,by omega,by omega,HS2.out,HF3.out,by rw [HG.out,up1_s f (a:=a) (k:=k) hak]⟩
      case measure=>simp [intOf];omega
    ·have hk2:=Hd (show k+1=i by omega)
     go_wp2_with fail
     (try simp only [Exit.inBlock,Exit.then])
     refine bodyPost_ret (results_none rfl _ _ _) rfl ?_
     exact ⟨rfl,HF2.out,g,HR2.out,by rw [HG.out,hk2.out];exact up1_sorted ordR (by omega) (by omega) (H1.out ▸ HS.out) (fun h h4 h5=>HLO.out h (by have:=H1.out;omega) h5) HHI.out⟩
set_option maxRecDepth 100000 in
set_option maxHeartbeats 6400000 in
theorem symb_ex (n c pb:Nat) (f:Nat→List Value) (tl:List Value) (w:World) (a m b:Nat) (h0:a+1<m) (h1:b=m+1) (h3:b≤n) (hn:n≤4294967296) (S:SortedOn LeR f a m) (R:RowsF w pb n f tl) :
 Calls Tryz.prog 170 #[.slice (some ⟨pb,0,none⟩) n c,.int .i64 a,.int .i64 m,.int .i64 b,.func (.func 140) #[] #[]] w (SrtR pb n tl (fun g=>PermOn a b f g∧SortedOn LeR g a b) w):=by
 have HR:=Hd R
 have HS:=Hd S
 have H1:=Hd h1
 clear R S
 have hm1:((m:Int)-(a:Int)==1)=false:=by simp;omega
 have hm2:((b:Int)-(m:Int)==1)=true:=by simp;omega
 have hm:m<n:=by omega
 have hmb:m<b:=by omega
 clear h1
 go_enter Tryz.func170,Tryz.ntmps170
 go_wp2_with fail
 go_loopw [14,15] (fun x y wr=>∃ i j:Nat,x=.int .i64 i∧y=.int .i64 j∧a≤i∧i≤j∧j≤m∧RowsF wr pb n f tl∧FB pb w wr∧(∀ h,a≤h→h<i→LeR (f h) (f m))∧∀ h,j≤h→h<m→¬ LeR (f h) (f m)) (fun x y _=>(intOf y).toNat-(intOf x).toNat)
 case atStart=>exact ⟨a,m,rfl,rfl,by omega,by omega,by omega,HR.out,FB.refl _ _,fun h h4 h5=>by omega,fun h h4 h5=>by omega⟩
 case round =>
  obtain ⟨i,j,rfl,rfl,hi,hij,hj,hR,hF,hlo,hhi⟩:=hrel
  have HR1:=Hd hR
  have HF:=Hd hF
  have HLO:=Hd hlo
  have HHI:=Hd hhi
  clear hR hF hlo hhi HR
  by_cases hlt:i<j
  ·obtain ⟨h,hh0⟩:∃ h,h=(i+j) / 2:=⟨_,rfl⟩
   have hh:h<n:=by omega
   have hih:i≤h:=by omega
   have hhj:h<j:=by omega
   have e0:((i:Int)+(j:Int)) / 2=(h:Int):=by omega
   have E0:=Hd e0
   clear hh0 e0
   obtain ⟨x,hx⟩:∃ x,x=cmpS (keyR (f m)) (keyR (f h)):=⟨_,rfl⟩
   have HX:=Hd hx
   clear hx
   go_wp2_with fail
   rw [E0.out]
   refine wp_region_held_drew (S:=fun u=>RowsF u pb n f tl∧FB pb w u) (by kernel_rfl) ⟨HR1.out.drew,HF.out.drew⟩ (fun hHeld=>?_)
   refine' tk 0 (.func (.func 140) #[] #[]) rfl rfl (.inl ⟨by rfl,fun u hu=>(by go_simp)⟩) hHeld ?_
   simp only [sq1,sq0]
   refine' tk 1 (.slice (some ⟨pb,0,none⟩) n c) rfl rfl (.inl ⟨by rfl,fun u hu=>(by go_simp)⟩) hHeld ?_
   simp only [sq1,sq0]
   refine' tk 2 (.int .i64 ((m:Nat):Int)) rfl rfl (.inl ⟨by rfl,fun u hu=>(by go_simp)⟩) hHeld ?_
   simp only [sq1,sq0]
   refine' tk 3 (.pointer (some ⟨pb,m * 14,none⟩)) rfl rfl (.inl ⟨by rfl,fun u hu=>(by go_simp;all_goals first | omega | (rw [IntKind.wrap_i64];omega) | (rw [if_pos (by omega)];congr;all_goals omega))⟩) hHeld ?_
   simp only [sq1,sq0]
   refine' tk 4 (.agg (f m).toArray) rfl rfl (yieldsIf_load_mid (by kernel_rfl) 76 _ rfl pb (m * 14) rfl (f m) _ (fun u hu=>hu.1.range hm) Tryz.underlying76 rfl (sizeFLD14 (HR1.out.len _ hm))) hHeld ?_
   simp only [sq1,sq0]
   refine' tk 5 (.slice (some ⟨pb,0,none⟩) n c) rfl rfl (.inl ⟨by rfl,fun u hu=>(by go_simp)⟩) hHeld ?_
   simp only [sq1,sq0]
   refine' tk 6 (.int .i64 ((h:Nat):Int)) rfl rfl (.inl ⟨by rfl,fun u hu=>(by go_simp)⟩) hHeld ?_
   simp only [sq1,sq0]
   refine' tk 7 (.pointer (some ⟨pb,h * 14,none⟩)) rfl rfl (.inl ⟨by rfl,fun u hu=>(by go_simp;all_goals first | omega | (rw [IntKind.wrap_i64];omega) | (rw [if_pos (by omega)];congr;all_goals omega))⟩) hHeld ?_
   simp only [sq1,sq0]
   refine' tk 8 (.agg (f h).toArray) rfl rfl (yieldsIf_load_mid (by kernel_rfl) 76 _ rfl pb (h * 14) rfl (f h) _ (fun u hu=>hu.1.range hh) Tryz.underlying76 rfl (sizeFLD14 (HR1.out.len _ hh))) hHeld ?_
   simp only [sq1,sq0]
   refine rd1 9 rfl (fun K hK=>?_)
   rw [if_pos (by rfl)]
   go_simp
   refine (keycmp_ex (f m) (f h) _ _ (HR1.out.key _ hm) (HR1.out.key _ hh) _).mono ?_
   rintro e u1 ⟨rfl,hbC⟩
   rw [← HX.out]
   refine hK.out _ _ ⟨hHeld.1.fb hbC,hHeld.2.trans (FB.of_below hbC)⟩ (fun hHeld1=>?_)
   clear hK K hbC hHeld
   have hHeld:=hHeld1
   clear hHeld1
   refine' tk 10 (.bool (decide (x<0))) rfl rfl (.inl ⟨by rfl,fun u hu=>(by go_simp)⟩) hHeld ?_
   simp only [sq1,sq0]
   refine' tk 11 (.bool (!(decide (x<0)))) rfl rfl (.inl ⟨by rfl,fun u hu=>(by go_simp)⟩) hHeld ?_
   simp only [sq1,sq0]
   refine wpAnyH_done (by kernel_rfl) ?_ _
   have HR4:=Hd hHeld.1
   have HF4:=Hd hHeld.2
   clear hHeld
   by_cases hc:x<0
   ·have HI2:=Hd (show ∀ h',h≤h'→h'<m→¬ LeR (f h') (f m) from fun h' h4 h5 hl=>leR_yes HX.out hc (ordR.trans _ _ _ (HS.out.le ordR (by omega) h4 h5) hl))
    rw [decide_eq_true hc]
    simp only [Bool.not_true]
    go_wp2_with fail
    go_roundw
    case rel=>exact ⟨i,h,rfl,by go_num,hi,by omega,by omega,HR4.out,HF4.out,HLO.out,HI2.out⟩
    case measure=>simp [intOf];omega
   ·have LO2:=Hd (show ∀ h',a≤h'→h'<h+1→LeR (f h') (f m) from fun h' h4 h5=>ordR.trans _ _ _ (HS.out.le ordR h4 (by omega) (by omega)) (leR_no HX.out hc))
    rw [decide_eq_false hc]
    simp only [Bool.not_false]
    go_wp2_with fail
    go_roundw
    case rel=>exact ⟨h+1,j,by go_num,rfl,by omega,by omega,hj,HR4.out,HF4.out,LO2.out,HHI.out⟩
    case measure=>simp [intOf];omega
  ·obtain rfl:i=j:=by omega
   go_wp2_with fail
   go_loopw [17] (fun x wr=>∃ (k:Nat) (g:Nat→List Value),x=.int .i64 k∧i≤k∧k≤m∧RowsF wr pb n g tl∧FB pb w wr∧g=dn1 f k m) (fun x _=>(intOf x).toNat)
   case atStart=>exact ⟨m,f,rfl,by omega,Nat.le_refl _,HR1.out,HF.out,(dn1_0 f m).symm⟩
   case round =>
    obtain ⟨k,g,rfl,hik,hkm,hR,hF,hg⟩:=hrel
    have HR2:=Hd hR
    have HF2:=Hd hF
    have HG:=Hd hg
    clear hR hF hg HR1 HF
    by_cases hlt:i<k
    ·obtain ⟨q,rfl⟩:∃ q,k=q+1:=⟨k-1,by omega⟩
     have hk1:q+1<n:=by omega
     have hk:q<n:=by omega
     go_wp2_with fail
     refine wp_region_held_drew (S:=fun _=>True) (by kernel_rfl) trivial (fun hHeld=>?_)
     refine' tk 0 (.slice (some ⟨pb,0,none⟩) n c) rfl rfl (.inl ⟨by rfl,fun u hu=>(by go_simp)⟩) hHeld ?_
     simp only [sq1,sq0]
     refine' tk 1 (.int .i64 ((q+1:Nat):Int)) rfl rfl (.inl ⟨by rfl,fun u hu=>(by go_simp)⟩) hHeld ?_
     simp only [sq1,sq0]
     refine' tk 2 (.slice (some ⟨pb,0,none⟩) n c) rfl rfl (.inl ⟨by rfl,fun u hu=>(by go_simp)⟩) hHeld ?_
     simp only [sq1,sq0]
     refine' tk 3 (.int .i64 ((q+1:Nat):Int)) rfl rfl (.inl ⟨by rfl,fun u hu=>(by go_simp)⟩) hHeld ?_
     simp only [sq1,sq0]
     refine' tk 4 (.int .i64 ((q:Nat):Int)) rfl rfl (.inl ⟨by rfl,fun u hu=>(by go_simp;all_goals first | omega | (rw [IntKind.wrap_i64];omega) | (rw [if_pos (by omega)];congr;all_goals omega))⟩) hHeld ?_
     simp only [sq1,sq0]
     refine' tk 5 (.slice (some ⟨pb,0,none⟩) n c) rfl rfl (.inl ⟨by rfl,fun u hu=>(by go_simp)⟩) hHeld ?_
     simp only [sq1,sq0]
     refine' tk 6 (.int .i64 ((q+1:Nat):Int)) rfl rfl (.inl ⟨by rfl,fun u hu=>(by go_simp)⟩) hHeld ?_
     simp only [sq1,sq0]
     refine' tk 7 (.int .i64 ((q:Nat):Int)) rfl rfl (.inl ⟨by rfl,fun u hu=>(by go_simp;all_goals first | omega | (rw [IntKind.wrap_i64];omega) | (rw [if_pos (by omega)];congr;all_goals omega))⟩) hHeld ?_
     simp only [sq1,sq0]
     refine' tk 8 (.pointer (some ⟨pb,q * 14,none⟩)) rfl rfl (.inl ⟨by rfl,fun u hu=>(by go_simp;all_goals first | omega | (rw [IntKind.wrap_i64];omega) | (rw [if_pos (by omega)];congr;all_goals omega))⟩) hHeld ?_
     simp only [sq1,sq0]
     refine' tk 10 (.slice (some ⟨pb,0,none⟩) n c) rfl rfl (.inl ⟨by rfl,fun u hu=>(by go_simp)⟩) hHeld ?_
     simp only [sq1,sq0]
     refine' tk 11 (.int .i64 ((q+1:Nat):Int)) rfl rfl (.inl ⟨by rfl,fun u hu=>(by go_simp)⟩) hHeld ?_
     simp only [sq1,sq0]
     refine' tk 12 (.pointer (some ⟨pb,(q+1) * 14,none⟩)) rfl rfl (.inl ⟨by rfl,fun u hu=>(by go_simp;all_goals first | omega | (rw [IntKind.wrap_i64];omega) | (rw [if_pos (by omega)];congr;all_goals omega))⟩) hHeld ?_
     simp only [sq1,sq0]
     refine wpAnyH_ready (rs:=[9,13]) (by kernel_rfl) (by simp) ?_
     refine AllReadyH.cons rfl (fun K hK=>?_) (AllReadyH.cons rfl (fun K hK=>?_) AllReadyH.nil)
     rotate_left
     rw [if_pos (by rfl)]
     refine wp_load_midL 126 rfl 76 (.tmp 125) rfl pb ((q+1) * 14) rfl (g (q+1)) _ (HR2.out.drew.range hk1) Tryz.underlying76 rfl (sizeFLD14 (HR2.out.len _ hk1)) ?_
     refine hK.out _ _ trivial (fun _=>?_)
     clear hK K
     simp only [sq1,sq0]
     refine rd1 9 rfl (fun K hK=>?_)
     rw [if_pos (by rfl)]
     refine wp_load_midL 122 rfl 76 (.tmp 121) rfl pb (q * 14) rfl (g q) _ (HR2.out.drew.range hk) Tryz.underlying76 rfl (sizeFLD14 (HR2.out.len _ hk)) ?_
     refine hK.out _ _ trivial (fun _=>?_)
     clear hK K
     simp only [sq1,sq0]
     rotate_left
     rw [if_pos (by rfl)]
     refine wp_load_midL 122 rfl 76 (.tmp 121) rfl pb (q * 14) rfl (g q) _ (HR2.out.drew.range hk) Tryz.underlying76 rfl (sizeFLD14 (HR2.out.len _ hk)) ?_
     refine hK.out _ _ trivial (fun _=>?_)
     clear hK K
     simp only [sq1,sq0]
     refine rd1 13 rfl (fun K hK=>?_)
     rw [if_pos (by rfl)]
     refine wp_load_midL 126 rfl 76 (.tmp 125) rfl pb ((q+1) * 14) rfl (g (q+1)) _ (HR2.out.drew.range hk1) Tryz.underlying76 rfl (sizeFLD14 (HR2.out.len _ hk1)) ?_
     refine hK.out _ _ trivial (fun _=>?_)
     clear hK K
     simp only [sq1,sq0]
     all_goals
      refine' tk 14 (.pointer (some ⟨pb,(q+1) * 14,none⟩)) rfl rfl (.inl ⟨by rfl,fun u hu=>(by go_simp;all_goals first | omega | (rw [IntKind.wrap_i64];omega) | (rw [if_pos (by omega)];congr;all_goals omega))⟩) hHeld ?_
      simp only [sq1,sq0]
      refine rd1 15 rfl (fun K hK=>?_)
      rw [if_pos (by rfl)]
      refine wp_store_atL rfl 76 _ _ rfl pb ((q+1) * 14) (g q) rfl rfl 76 (flatR n g++tl) (flatR n (upd g (q+1) (g q))++tl) HR2.out.drew.row (sizeFLD14 (HR2.out.len _ hk)) (flatR_set HR2.out.len (HR2.out.len _ hk) hk1) (fit14 HR2.out.len (HR2.out.len _ hk) hk1) (HR2.out.one _ hk) ?_
      refine hK.out _ _ trivial (fun _=>?_)
      clear hK K
      have HS1:=Hd (HR2.out.drew.put hk1 hk)
      refine' tk 16 (.pointer (some ⟨pb,q * 14,none⟩)) rfl rfl (.inl ⟨by rfl,fun u hu=>(by go_simp;all_goals first | omega | (rw [IntKind.wrap_i64];omega) | (rw [if_pos (by omega)];congr;all_goals omega))⟩) hHeld ?_
      simp only [sq1,sq0]
      refine rd1 17 rfl (fun K hK=>?_)
      rw [if_pos (by rfl)]
      refine wp_store_atL rfl 76 _ _ rfl pb (q * 14) (g (q+1)) rfl rfl 76 (flatR n (upd g (q+1) (g q))++tl) (flatR n (upd (upd g (q+1) (g q)) q (g (q+1)))++tl) HS1.out.row (sizeFLD14 (HR2.out.len _ hk1)) (flatR_set HS1.out.len (HR2.out.len _ hk1) hk) (fit14 HS1.out.len (HR2.out.len _ hk1) hk) (HR2.out.one _ hk1) ?_
      refine hK.out _ _ trivial (fun _=>?_)
      clear hK K HS1
      have HS2:=Hd (HR2.out.drew.swapped hk1 hk)
      have HF3:=Hd (HF2.out.drew.swapped n g tl (q+1) q)
      refine wpAnyH_done (by kernel_rfl) ?_ _
      go_wp2_with fail
      go_roundw
      case rel=>exact ⟨q,_,by go_num,by omega,by omega,HS2.out,HF3.out,by rw [HG.out,dn1_s f (i:=q) (m:=m) (by omega)]⟩
      case measure=>simp [intOf]
    ·have hk2:=Hd (show k=i by omega)
     go_wp2_with fail
     (try simp only [Exit.inBlock,Exit.then])
     refine bodyPost_ret (results_none rfl _ _ _) rfl ?_
     exact ⟨rfl,HF2.out,g,HR2.out,by rw [HG.out,hk2.out,H1.out];exact dn1_sorted ordR hi (by omega) HS.out HLO.out HHI.out⟩
end Go.Proofs.YtniljgkkcnekgaaGreatDoor

/- The library's stable sort of fields by their keys: the merge by symmetric comparisons. -/
namespace Go.Proofs.YtniljgkkcnekgaaGreatDoor
open Go.RowKit Stb
set_option maxRecDepth 100000 in
set_option maxHeartbeats 6400000 in
theorem symc_ex (n c pb:Nat) (tl:List Value) (hn:n≤4294967296) (d:Nat)
 (IH:∀ (f:Nat→List Value) (w:World) (a m b:Nat),a<m→m<b→b≤n→b-a<d→SortedOn LeR f a m→SortedOn LeR f m b→RowsF w pb n f tl →
   Calls Tryz.prog 170 #[.slice (some ⟨pb,0,none⟩) n c,.int .i64 a,.int .i64 m,.int .i64 b,.func (.func 140) #[] #[]] w (SrtR pb n tl (fun g=>PermOn a b f g∧SortedOn LeR g a b) w))
 (f:Nat→List Value) (w:World) (a m b:Nat) (h0:a+1<m) (h1:m+1<b) (h3:b≤n) (hd:b-a≤d) (S1:SortedOn LeR f a m) (S2:SortedOn LeR f m b) (R:RowsF w pb n f tl) :
 Calls Tryz.prog 170 #[.slice (some ⟨pb,0,none⟩) n c,.int .i64 a,.int .i64 m,.int .i64 b,.func (.func 140) #[] #[]] w (SrtR pb n tl (fun g=>PermOn a b f g∧SortedOn LeR g a b) w):=by
 have HR:=Hd R
 have HS1:=Hd S1
 have HS2:=Hd S2
 have HIH:=Hd IH
 clear R S1 S2 IH
 have hm1:((m:Int)-(a:Int)==1)=false:=by simp;omega
 have hm2:((b:Int)-(m:Int)==1)=false:=by simp;omega
 obtain ⟨mid,hmid⟩:∃ mid,mid=(a+b) / 2:=⟨_,rfl⟩
 obtain ⟨s0,hs0⟩:∃ s0,s0=if (a+b) / 2<m then (a+b) / 2+m-b else a:=⟨_,rfl⟩
 obtain ⟨r0,hr0⟩:∃ r0,r0=if (a+b) / 2<m then (a+b) / 2 else m:=⟨_,rfl⟩
 obtain ⟨p,hp⟩:∃ p,p=mid+m-1:=⟨_,rfl⟩
 have hq1:a+b≤2 * mid+1:=by omega
 have hq2:2 * mid≤a+b:=by omega
 have hb:a≤s0∧s0≤r0∧r0≤m∧mid+m≤b+s0∧r0≤mid:=by
  rw [hs0,hr0]
  split<;>omega
 obtain ⟨hb1,hb2,hb3,hb4,hb5⟩:=hb
 have hp1:mid+m≤p+1:=by omega
 have hp2:p+1≤mid+m:=by omega
 have E0:=Hd (show ((a:Int)+(b:Int)) / 2=(mid:Int) by omega)
 have EP:=Hd (show (mid:Int)+(m:Int)-1=(p:Int) by omega)
 have HSR:=Hd (show (mid<m→s0=mid+m-b∧r0=mid)∧(¬ mid<m→s0=a∧r0=m) by
  rw [hs0,hr0,hmid]
  refine ⟨fun h=>?_,fun h=>?_⟩
  ·rw [if_pos h,if_pos h];exact ⟨rfl,rfl⟩
  ·rw [if_neg h,if_neg h];exact ⟨rfl,rfl⟩)
 have HMID:=Hd hmid
 have HS0:=Hd hs0
 have HR0:=Hd hr0
 have HP:=Hd hp
 clear hmid hs0 hr0 hp
 go_enter Tryz.func170,Tryz.ntmps170
 go_upto_if 140 with fail
 rw [E0.out]
 go_cut [20,21] from 138 to 146 (fun x y wx=>x=.int .i64 s0∧y=.int .i64 r0∧wx=w)
 case first =>
  by_cases hmm:mid<m
  ·have e1:=Hd (HSR.out.1 hmm)
   go_wp2_with fail
   go_meet
   exact ⟨by rw [e1.out.1];go_num,by rw [e1.out.2],rfl⟩
  ·have e1:=Hd (HSR.out.2 hmm)
   go_wp2_with fail
   go_meet
   exact ⟨by rw [e1.out.1],by rw [e1.out.2],rfl⟩
 case rest =>
 obtain ⟨rfl,rfl,hwc⟩:=hcut
 subst wc
 go_wp2_with fail
 rw [EP.out]
 go_loopw [20,21] (fun x y wr=>∃ st r:Nat,x=.int .i64 st∧y=.int .i64 r∧s0≤st∧st≤r∧r≤r0∧RowsF wr pb n f tl∧FB pb w wr∧(∀ q,s0≤q→q<st→LeR (f q) (f (p-q)))∧∀ q,r≤q→q<r0→¬ LeR (f q) (f (p-q))) (fun x y _=>(intOf y).toNat-(intOf x).toNat)
 case atStart=>exact ⟨s0,r0,rfl,rfl,Nat.le_refl _,hb2,Nat.le_refl _,HR.out,FB.refl _ _,fun q h4 h5=>by omega,fun q h4 h5=>by omega⟩
 case round =>
  obtain ⟨st,r,rfl,rfl,hst,hsr,hr,hR,hF,hlo,hhi⟩:=hrel
  have HR1:=Hd hR
  have HF:=Hd hF
  have HLO:=Hd hlo
  have HHI:=Hd hhi
  clear hR hF hlo hhi HR
  by_cases hlt:st<r
  ·obtain ⟨h,hh0⟩:∃ h,h=(st+r) / 2:=⟨_,rfl⟩
   have hih:st≤h:=by omega
   have hhj:h<r:=by omega
   have hh:h<n:=by omega
   obtain ⟨u,hu0⟩:∃ u,u=p-h:=⟨_,rfl⟩
   have hu1:u+h≤p:=by omega
   have hu2:p≤u+h:=by omega
   have hun:u<n:=by omega
   have hum:m≤u:=by omega
   have hub:u<b:=by omega
   have e0:((st:Int)+(r:Int)) / 2=(h:Int):=by omega
   have E1:=Hd e0
   have HU:=Hd hu0
   clear hh0 e0 hu0
   obtain ⟨x,hx⟩:∃ x,x=cmpS (keyR (f u)) (keyR (f h)):=⟨_,rfl⟩
   have HX:=Hd hx
   clear hx
   go_wp2_with fail
   rw [E1.out]
   refine wp_region_held_drew (S:=fun u=>RowsF u pb n f tl∧FB pb w u) (by kernel_rfl) ⟨HR1.out.drew,HF.out.drew⟩ (fun hHeld=>?_)
   refine' tk 0 (.func (.func 140) #[] #[]) rfl rfl (.inl ⟨by rfl,fun u hu=>(by go_simp)⟩) hHeld ?_
   simp only [sq1,sq0]
   refine' tk 1 (.slice (some ⟨pb,0,none⟩) n c) rfl rfl (.inl ⟨by rfl,fun u hu=>(by go_simp)⟩) hHeld ?_
   simp only [sq1,sq0]
   refine' tk 2 (.int .i64 ((p:Nat):Int)) rfl rfl (.inl ⟨by rfl,fun u hu=>(by go_simp)⟩) hHeld ?_
   simp only [sq1,sq0]
   refine' tk 3 (.int .i64 ((h:Nat):Int)) rfl rfl (.inl ⟨by rfl,fun u hu=>(by go_simp)⟩) hHeld ?_
   simp only [sq1,sq0]
   refine' tk 4 (.int .i64 ((u:Nat):Int)) rfl rfl (.inl ⟨by rfl,fun u hu=>(by go_simp;all_goals first | omega | (rw [IntKind.wrap_i64];omega) | (rw [if_pos (by omega)];congr;all_goals omega))⟩) hHeld ?_
   simp only [sq1,sq0]
   refine' tk 5 (.pointer (some ⟨pb,u * 14,none⟩)) rfl rfl (.inl ⟨by rfl,fun u hu=>(by go_simp;all_goals first | omega | (rw [IntKind.wrap_i64];omega) | (rw [if_pos (by omega)];congr;all_goals omega))⟩) hHeld ?_
   simp only [sq1,sq0]
   refine' tk 6 (.agg (f u).toArray) rfl rfl (yieldsIf_load_mid (by kernel_rfl) 76 _ rfl pb (u * 14) rfl (f u) _ (fun u hu=>hu.1.range hun) Tryz.underlying76 rfl (sizeFLD14 (HR1.out.len _ hun))) hHeld ?_
   simp only [sq1,sq0]
   refine' tk 7 (.slice (some ⟨pb,0,none⟩) n c) rfl rfl (.inl ⟨by rfl,fun u hu=>(by go_simp)⟩) hHeld ?_
   simp only [sq1,sq0]
   refine' tk 8 (.int .i64 ((h:Nat):Int)) rfl rfl (.inl ⟨by rfl,fun u hu=>(by go_simp)⟩) hHeld ?_
   simp only [sq1,sq0]
   refine' tk 9 (.pointer (some ⟨pb,h * 14,none⟩)) rfl rfl (.inl ⟨by rfl,fun u hu=>(by go_simp;all_goals first | omega | (rw [IntKind.wrap_i64];omega) | (rw [if_pos (by omega)];congr;all_goals omega))⟩) hHeld ?_
   simp only [sq1,sq0]
   refine' tk 10 (.agg (f h).toArray) rfl rfl (yieldsIf_load_mid (by kernel_rfl) 76 _ rfl pb (h * 14) rfl (f h) _ (fun u hu=>hu.1.range hh) Tryz.underlying76 rfl (sizeFLD14 (HR1.out.len _ hh))) hHeld ?_
   simp only [sq1,sq0]
   refine rd1 11 rfl (fun K hK=>?_)
   rw [if_pos (by rfl)]
   go_simp
   refine (keycmp_ex (f u) (f h) _ _ (HR1.out.key _ hun) (HR1.out.key _ hh) _).mono ?_
   rintro e u1 ⟨rfl,hbC⟩
   rw [← HX.out]
   refine hK.out _ _ ⟨hHeld.1.fb hbC,hHeld.2.trans (FB.of_below hbC)⟩ (fun hHeld1=>?_)
   clear hK K hbC hHeld
   have hHeld:=hHeld1
   clear hHeld1
   refine' tk 12 (.bool (decide (x<0))) rfl rfl (.inl ⟨by rfl,fun u hu=>(by go_simp)⟩) hHeld ?_
   simp only [sq1,sq0]
   refine' tk 13 (.bool (!(decide (x<0)))) rfl rfl (.inl ⟨by rfl,fun u hu=>(by go_simp)⟩) hHeld ?_
   simp only [sq1,sq0]
   refine wpAnyH_done (by kernel_rfl) ?_ _
   have HR4:=Hd hHeld.1
   have HF4:=Hd hHeld.2
   clear hHeld
   by_cases hc:x<0
   ·have HI2:=Hd (show ∀ q,h≤q→q<r0→¬ LeR (f q) (f (p-q)) from fun q h4 h5 hl =>
     leR_yes HX.out hc (ordR.trans _ _ _ (HS1.out.le ordR (by omega) h4 (by omega)) (ordR.trans _ _ _ hl (HS2.out.le ordR (by omega) (by omega) (by omega)))))
    rw [decide_eq_true hc]
    simp only [Bool.not_true]
    go_wp2_with fail
    go_roundw
    case rel=>exact ⟨st,h,rfl,by go_num,hst,by omega,by omega,HR4.out,HF4.out,HLO.out,HI2.out⟩
    case measure=>simp [intOf];omega
   ·have LO2:=Hd (show ∀ q,s0≤q→q<h+1→LeR (f q) (f (p-q)) from fun q h4 h5 =>
     ordR.trans _ _ _ (HS1.out.le ordR (by omega) (by omega) (by omega)) (ordR.trans _ _ _ (leR_no HX.out hc) (HS2.out.le ordR (by omega) (by omega) (by omega))))
    rw [decide_eq_false hc]
    simp only [Bool.not_false]
    go_wp2_with fail
    go_roundw
    case rel=>exact ⟨h+1,r,by go_num,rfl,by omega,by omega,hr,HR4.out,HF4.out,LO2.out,HHI.out⟩
    case measure=>simp [intOf];omega
  ·obtain rfl:st=r:=by omega
   obtain ⟨en,hen⟩:∃ en,en=mid+m-st:=⟨_,rfl⟩
   have E2:=Hd (show (mid:Int)+(m:Int)-(st:Int)=(en:Int) by omega)
   have C:=Hd (show Cut LeR f a m b st en by
    have:=cut_of ordR (start:=st) (by omega) (by omega) HS1.out HS2.out HS0.out HR0.out hst hr (fun q h4 h5=>by have h6:=HLO.out q h4 h5;rw [HP.out,HMID.out] at h6;exact h6) (fun q h4 h5=>by have h6:=HHI.out q h4 h5;rw [HP.out,HMID.out] at h6;exact h6)
    rw [← HMID.out,← hen] at this
    exact this)
   have hc1:=C.out.a_s
   have hc2:=C.out.s_m
   have hc3:=C.out.m_e
   have hc4:=C.out.e_b
   have hme1:mid+m≤st+en:=by omega
   have hme2:st+en≤mid+m:=by omega
   have PARTS:=Hd (C.out.parts HS1.out HS2.out)
   have HMM:=Hd (show mid=st+(en-m) by omega)
   clear hen
   obtain ⟨t1,ht1⟩:∃ t,t=(decide (st<m)&&decide (m<en)):=⟨_,rfl⟩
   have HT1:=Hd ht1
   clear ht1
   obtain ⟨t2,ht2⟩:∃ t,t=(decide (a<st)&&decide (st<mid)):=⟨_,rfl⟩
   have HT2:=Hd ht2
   clear ht2
   go_upto_region 39 with fail
   rw [E2.out]
   go_cut [185] from 178 to 185 (fun v wx=>v=.bool t1∧wx=wr)
   case first =>
    by_cases q1:st<m
    ·by_cases q2:m<en
     ·go_wp2_with fail
      go_meet
      exact ⟨by rw [HT1.out];simp [q1,q2],rfl⟩
     ·go_wp2_with fail
      go_meet
      exact ⟨by rw [HT1.out];simp [q1,q2],rfl⟩
    ·go_wp2_with fail
     go_meet
     exact ⟨by rw [HT1.out];simp [q1],rfl⟩
   case rest =>
   obtain ⟨rfl,hwc⟩:=hcut
   subst wc
   go_upto_if 185 with fail
   go_cut [] from 185 to 191 (fun wx=>RowsF wx pb n (rot f st m en) tl∧FB pb w wx)
   case first =>
    cases ht:t1 with
    | true =>
      have hq:st<m∧m<en:=by have h5:=HT1.out;rw [ht] at h5;simpa using h5.symm
      obtain ⟨q1,q2⟩:=hq
      go_wp2_with (go_at_call 176;refine (rotr_ex n c pb f tl _ st m en q1 q2 (by omega) hn HR1.out).mono ?_;rintro e w2 ⟨rfl,hf2,g2,hr2,hg2⟩;have HR3:=Hd hr2;have HF3:=Hd hf2;have HG:=Hd hg2;clear hr2 hf2 hg2)
      go_meet
      exact ⟨by rw [← HG.out];exact HR3.out,HF.out.trans HF3.out⟩
    | false =>
      have hq:¬ (st<m∧m<en):=by have h5:=HT1.out;rw [ht] at h5;intro h6;rw [decide_eq_true h6.1,decide_eq_true h6.2] at h5;cases h5
      have hno:=Hd (rot_no (f:=f) (a:=st) (m:=m) (b:=en) (by omega) hc2 hc3)
      clear hq
      go_wp2_with fail
      go_meet
      exact ⟨by rw [hno.out];exact HR1.out,HF.out⟩
   case rest =>
   have HR5:=Hd hcut.1
   have HF5:=Hd hcut.2
   clear hcut HR1 HF
   obtain ⟨wd,hwd⟩:∃ wd,wd=wc:=⟨_,rfl⟩
   subst wc
   go_upto_region 41 with fail
   go_cut [199] from 192 to 199 (fun v wx=>v=.bool t2∧wx=wd)
   case first =>
    by_cases q1:a<st
    ·by_cases q2:st<mid
     ·go_wp2_with fail
      go_meet
      exact ⟨by rw [HT2.out];simp [q1,q2],rfl⟩
     ·go_wp2_with fail
      go_meet
      exact ⟨by rw [HT2.out];simp [q1,q2],rfl⟩
    ·go_wp2_with fail
     go_meet
     exact ⟨by rw [HT2.out];simp [q1],rfl⟩
   case rest =>
   obtain ⟨rfl,hwc⟩:=hcut
   subst wc
   go_upto_if 199 with fail
   go_cut [] from 199 to 205 (fun wx=>∃ g1,RowsF wx pb n g1 tl∧FB pb w wx∧PermOn a mid (rot f st m en) g1∧SortedOn LeR g1 a mid)
   case first =>
    cases ht:t2 with
    | true =>
      have hq:a<st∧st<mid:=by have h5:=HT2.out;rw [ht] at h5;simpa using h5.symm
      obtain ⟨q1,q2⟩:=hq
      go_wp2_with (go_at_call 170;refine (HIH.out _ _ a st mid q1 q2 (by omega) (by omega) PARTS.out.1 (by rw [HMM.out];exact PARTS.out.2.1) HR5.out).mono ?_;rintro e w2 ⟨rfl,hf2,g2,hr2,hg2⟩;have HR3:=Hd hr2;have HF3:=Hd hf2;have HG:=Hd hg2;clear hr2 hf2 hg2)
      go_meet
      exact ⟨g2,HR3.out,HF5.out.trans HF3.out,HG.out.1,HG.out.2⟩
    | false =>
      have hq:¬ (a<st∧st<mid):=by have h5:=HT2.out;rw [ht] at h5;intro h6;rw [decide_eq_true h6.1,decide_eq_true h6.2] at h5;cases h5
      have hno:=Hd (show SortedOn LeR (rot f st m en) a mid by
       rcases (show a=st∨mid=st by omega) with h5 | h5
       ·rw [h5,HMM.out];exact PARTS.out.2.1
       ·rw [h5];exact PARTS.out.1)
      clear hq
      go_wp2_with fail
      go_meet
      exact ⟨_,HR5.out,HF5.out,PermOn.refl _ _ _,hno.out⟩
   case rest =>
   obtain ⟨g1,hr6,hf6,hp6,hs6⟩:=hcut
   have HR6:=Hd hr6
   have HF6:=Hd hf6
   have HP6:=Hd hp6
   have HS6:=Hd hs6
   clear hr6 hf6 hp6 hs6 HR5 HF5
   have K1:=Hd (show SortedOn LeR g1 mid en from HP6.out.keep (by have:=PARTS.out.2.2.1;rw [← HMM.out] at this;exact this) (.inr (Nat.le_refl _)))
   have K2:=Hd (show SortedOn LeR g1 en b from HP6.out.keep PARTS.out.2.2.2 (.inr (by omega)))
   by_cases q1:mid<en
   ·by_cases q2:en<b
    ·go_wp2_with (go_at_call 170;refine (HIH.out _ _ mid en b q1 q2 (by omega) (by omega) K1.out K2.out HR6.out).mono ?_;rintro e w2 ⟨rfl,hf2,g2,hr2,hg2⟩;have HR3:=Hd hr2;have HF3:=Hd hf2;have HG:=Hd hg2;clear hr2 hf2 hg2)
     go_end0
     exact ⟨rfl,HF6.out.trans HF3.out,g2,HR3.out,C.out.merge HMM.out HP6.out HS6.out HG.out.1 HG.out.2⟩
    ·have hno:=Hd (show SortedOn LeR g1 mid b by rw [show b=en by omega];exact K1.out)
     go_wp2_with fail
     go_end0
     exact ⟨rfl,HF6.out,g1,HR6.out,C.out.merge HMM.out HP6.out HS6.out (PermOn.refl _ _ _) hno.out⟩
   ·have hno:=Hd (show SortedOn LeR g1 mid b by rw [show mid=en by omega];exact K2.out)
    go_wp2_with fail
    go_end0
    exact ⟨rfl,HF6.out,g1,HR6.out,C.out.merge HMM.out HP6.out HS6.out (PermOn.refl _ _ _) hno.out⟩
theorem sym_ex (n c pb:Nat) (tl:List Value) (hn:n≤4294967296) (d:Nat):∀ (f:Nat→List Value) (w:World) (a m b:Nat),a<m→m<b→b≤n→b-a<d→SortedOn LeR f a m→SortedOn LeR f m b→RowsF w pb n f tl →
 Calls Tryz.prog 170 #[.slice (some ⟨pb,0,none⟩) n c,.int .i64 a,.int .i64 m,.int .i64 b,.func (.func 140) #[] #[]] w (SrtR pb n tl (fun g=>PermOn a b f g∧SortedOn LeR g a b) w):=by
 induction d with
 | zero=>intro f w a m b _ _ _ h;omega
 | succ d ih =>
   intro f w a m b h1 h2 h3 h4 S1 S2 R
   by_cases q1:m=a+1
   ·exact syma_ex n c pb f tl w a m b q1 h2 h3 hn S2 R
   ·by_cases q2:b=m+1
    ·exact symb_ex n c pb f tl w a m b (by omega) q2 h3 hn S1 R
    ·exact symc_ex n c pb tl hn d ih f w a m b (by omega) (by omega) h3 (by omega) S1 S2 R
end Go.Proofs.YtniljgkkcnekgaaGreatDoor
