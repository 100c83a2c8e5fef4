/- The library's stable sort of fields by their keys: one thing merged into its place. -/
import Derived.Test.YtagkjofpncpcpaaGreatDoorProg
import Derived.Test.YtagkjofpncpcpaaGreatDoorGA
import Derived.Test.YtagkjofpncpcpaaGreatDoorGB
import Derived.Test.YtagkjofpncpcpaaGreatDoorChkq
import Derived.Test.YtagkjofpncpcpaaGreatDoorSmg07
import Derived.Test.YtagkjofpncpcpaaGreatDoorXA
import Derived.Test.YtagkjofpncpcpaaGreatDoorXB
namespace Go.Proofs.YtagkjofpncpcpaaGreatDoor
namespace Stb
end Stb
open Go.RowKit Stb
set_option maxRecDepth 100000 in
set_option maxHeartbeats 6400000 in
theorem syma_ex (n c pb:Nat) (f:Nat→List Value) (tl:List Value) (w:World) (a m b:Nat) (h1:m=a+1) (h2:m<b) (h3:b≤n) (hn:n≤4294967296) (S:SortedOn LeR f m b) (R:RowsF w pb n f tl) :
 Calls Tryz.prog 305 #[.slice (some ⟨pb,0,none⟩) n c,.int .i64 a,.int .i64 m,.int .i64 b,.func (.func 258) #[] #[]] w (SrtR pb n tl (fun g=>PermOn a b f g∧SortedOn LeR g a b) w):=by
 have HR:=Hd R
 have HS:=Hd S
 have H1:=Hd h1
 clear R S
 have hm1:((m:Int)-(a:Int)==1)=true:=by simp;omega
 have ha:a<n:=by omega
 have hma:a<m:=by omega
 clear h1
 go_enter Tryz.func305,Tryz.ntmps305
 go_wp2_with fail
 go_loopw [10,11] (fun x y wr=>∃ i j:Nat,x=.int .i64 i∧y=.int .i64 j∧m≤i∧i≤j∧j≤b∧RowsF wr pb n f tl∧FB pb w wr∧(∀ h,m≤h→h<i→¬ LeR (f a) (f h))∧∀ h,j≤h→h<b→LeR (f a) (f h)) (fun x y _=>(intOf y).toNat-(intOf x).toNat)
 case atStart=>exact ⟨m,b,rfl,rfl,by omega,by omega,by omega,HR.out,FB.refl _ _,fun h h4 h5=>by omega,fun h h4 h5=>by omega⟩
 case round =>
  obtain ⟨i,j,rfl,rfl,hi,hij,hj,hR,hF,hlo,hhi⟩:=hrel
  have HR1:=Hd hR
  have HF:=Hd hF
  have HLO:=Hd hlo
  have HHI:=Hd hhi
  clear hR hF hlo hhi HR
  by_cases hlt:i<j
  ·obtain ⟨h,hh0⟩:∃ h,h=(i+j) / 2:=⟨_,rfl⟩
   have hh:h<n:=by omega
   have hih:i≤h:=by omega
   have hhj:h<j:=by omega
   have e0:((i:Int)+(j:Int)) / 2=(h:Int):=by omega
   have E0:=Hd e0
   clear hh0 e0
   obtain ⟨x,hx⟩:∃ x,x=cmpS (keyR (f h)) (keyR (f a)):=⟨_,rfl⟩
   have HX:=Hd hx
   clear hx
   go_wp2_with fail
   rw [E0.out]
   refine wp_region_held_drew (S:=fun u=>RowsF u pb n f tl∧FB pb w u) (by kernel_rfl) ⟨HR1.out.drew,HF.out.drew⟩ (fun hHeld=>?_)
   refine' tk 0 (.func (.func 258) #[] #[]) rfl rfl (.inl ⟨by rfl,fun u hu=>(by go_simp)⟩) hHeld ?_
   simp only [sq1,sq0]
   refine' tk 1 (.slice (some ⟨pb,0,none⟩) n c) rfl rfl (.inl ⟨by rfl,fun u hu=>(by go_simp)⟩) hHeld ?_
   simp only [sq1,sq0]
   refine' tk 2 (.int .i64 ((h:Nat):Int)) rfl rfl (.inl ⟨by rfl,fun u hu=>(by go_simp)⟩) hHeld ?_
   simp only [sq1,sq0]
   refine' tk 3 (.pointer (some ⟨pb,h * 14,none⟩)) rfl rfl (.inl ⟨by rfl,fun u hu=>(by go_simp;all_goals first | omega | (rw [IntKind.wrap_i64];omega) | (rw [if_pos (by omega)];congr;all_goals omega))⟩) hHeld ?_
   simp only [sq1,sq0]
   refine' tk 4 (.agg (f h).toArray) rfl rfl (yieldsIf_load_mid (by kernel_rfl) 41 _ rfl pb (h * 14) rfl (f h) _ (fun u hu=>hu.1.range hh) Tryz.underlying41 rfl (sizeFLD14 (HR1.out.len _ hh))) hHeld ?_
   simp only [sq1,sq0]
   refine' tk 5 (.slice (some ⟨pb,0,none⟩) n c) rfl rfl (.inl ⟨by rfl,fun u hu=>(by go_simp)⟩) hHeld ?_
   simp only [sq1,sq0]
   refine' tk 6 (.int .i64 ((a:Nat):Int)) rfl rfl (.inl ⟨by rfl,fun u hu=>(by go_simp)⟩) hHeld ?_
   simp only [sq1,sq0]
   refine' tk 7 (.pointer (some ⟨pb,a * 14,none⟩)) rfl rfl (.inl ⟨by rfl,fun u hu=>(by go_simp;all_goals first | omega | (rw [IntKind.wrap_i64];omega) | (rw [if_pos (by omega)];congr;all_goals omega))⟩) hHeld ?_
   simp only [sq1,sq0]
   refine' tk 8 (.agg (f a).toArray) rfl rfl (yieldsIf_load_mid (by kernel_rfl) 41 _ rfl pb (a * 14) rfl (f a) _ (fun u hu=>hu.1.range ha) Tryz.underlying41 rfl (sizeFLD14 (HR1.out.len _ ha))) hHeld ?_
   simp only [sq1,sq0]
   refine rd1 9 rfl (fun K hK=>?_)
   rw [if_pos (by rfl)]
   go_simp
   refine (keycmp_ex (f h) (f a) _ _ (HR1.out.key _ hh) (HR1.out.key _ ha) _).mono ?_
   rintro e u1 ⟨rfl,hbC⟩
   rw [← HX.out]
   refine hK.out _ _ ⟨hHeld.1.fb hbC,hHeld.2.trans (FB.of_below hbC)⟩ (fun hHeld1=>?_)
   clear hK K hbC hHeld
   have hHeld:=hHeld1
   clear hHeld1
   refine' tk 10 (.bool (decide (x<0))) rfl rfl (.inl ⟨by rfl,fun u hu=>(by go_simp)⟩) hHeld ?_
   simp only [sq1,sq0]
   refine wpAnyH_done (by kernel_rfl) ?_ _
   have HR4:=Hd hHeld.1
   have HF4:=Hd hHeld.2
   clear hHeld
   by_cases hc:x<0
   ·have LO2:=Hd (show ∀ h',m≤h'→h'<h+1→¬ LeR (f a) (f h') from fun h' h4 h5 hl=>by
     rcases Nat.lt_or_ge h' i with h6 | h6
     ·exact HLO.out h' h4 h6 hl
     ·exact leR_yes HX.out hc (ordR.trans _ _ _ hl (HS.out.le ordR h4 (by omega) (by omega))))
    go_wp2_with fail
    go_roundw
    case rel=>exact ⟨h+1,j,by go_num,rfl,by omega,by omega,hj,HR4.out,HF4.out,LO2.out,HHI.out⟩
    case measure=>simp [intOf];omega
   ·have HI2:=Hd (show ∀ h',h≤h'→h'<b→LeR (f a) (f h') from fun h' h4 h5=>ordR.trans _ _ _ (leR_no HX.out hc) (HS.out.le ordR (by omega) h4 h5))
    go_wp2_with fail
    go_roundw
    case rel=>exact ⟨i,h,rfl,by go_num,hi,by omega,by omega,HR4.out,HF4.out,HLO.out,HI2.out⟩
    case measure=>simp [intOf];omega
  ·obtain rfl:i=j:=by omega
   go_wp2_with fail
   go_loopw [13] (fun x wr=>∃ (k:Nat) (g:Nat→List Value),x=.int .i64 k∧a≤k∧k+1≤i∧RowsF wr pb n g tl∧FB pb w wr∧g=up1 f a (k+1)) (fun x _=>i-(intOf x).toNat)
   case atStart=>exact ⟨a,f,rfl,Nat.le_refl _,by omega,HR1.out,HF.out,(up1_0 f a).symm⟩
   case round =>
    obtain ⟨k,g,rfl,hak,hki,hR,hF,hg⟩:=hrel
    have HR2:=Hd hR
    have HF2:=Hd hF
    have HG:=Hd hg
    clear hR hF hg HR1 HF
    have hk:k<n:=by omega
    by_cases hlt:k+1<i
    ·have hk1:k+1<n:=by omega
     go_wp2_with fail
     refine wp_region_held_drew (S:=fun _=>True) (by kernel_rfl) trivial (fun hHeld=>?_)
     refine' tk 0 (.slice (some ⟨pb,0,none⟩) n c) rfl rfl (.inl ⟨by rfl,fun u hu=>(by go_simp)⟩) hHeld ?_
     simp only [sq1,sq0]
     refine' tk 1 (.int .i64 ((k:Nat):Int)) rfl rfl (.inl ⟨by rfl,fun u hu=>(by go_simp)⟩) hHeld ?_
     simp only [sq1,sq0]
     refine' tk 2 (.slice (some ⟨pb,0,none⟩) n c) rfl rfl (.inl ⟨by rfl,fun u hu=>(by go_simp)⟩) hHeld ?_
     simp only [sq1,sq0]
     refine' tk 3 (.int .i64 ((k:Nat):Int)) rfl rfl (.inl ⟨by rfl,fun u hu=>(by go_simp)⟩) hHeld ?_
     simp only [sq1,sq0]
     refine' tk 4 (.int .i64 ((k+1:Nat):Int)) rfl rfl (.inl ⟨by rfl,fun u hu=>(by go_simp;all_goals first | omega | (rw [IntKind.wrap_i64];omega) | (rw [if_pos (by omega)];congr;all_goals omega))⟩) hHeld ?_
     simp only [sq1,sq0]
     refine' tk 5 (.slice (some ⟨pb,0,none⟩) n c) rfl rfl (.inl ⟨by rfl,fun u hu=>(by go_simp)⟩) hHeld ?_
     simp only [sq1,sq0]
     refine' tk 6 (.int .i64 ((k:Nat):Int)) rfl rfl (.inl ⟨by rfl,fun u hu=>(by go_simp)⟩) hHeld ?_
     simp only [sq1,sq0]
     refine' tk 7 (.int .i64 ((k+1:Nat):Int)) rfl rfl (.inl ⟨by rfl,fun u hu=>(by go_simp;all_goals first | omega | (rw [IntKind.wrap_i64];omega) | (rw [if_pos (by omega)];congr;all_goals omega))⟩) hHeld ?_
     simp only [sq1,sq0]
     refine' tk 8 (.pointer (some ⟨pb,(k+1) * 14,none⟩)) rfl rfl (.inl ⟨by rfl,fun u hu=>(by go_simp;all_goals first | omega | (rw [IntKind.wrap_i64];omega) | (rw [if_pos (by omega)];congr;all_goals omega))⟩) hHeld ?_
     simp only [sq1,sq0]
     refine' tk 10 (.slice (some ⟨pb,0,none⟩) n c) rfl rfl (.inl ⟨by rfl,fun u hu=>(by go_simp)⟩) hHeld ?_
     simp only [sq1,sq0]
     refine' tk 11 (.int .i64 ((k:Nat):Int)) rfl rfl (.inl ⟨by rfl,fun u hu=>(by go_simp)⟩) hHeld ?_
     simp only [sq1,sq0]
     refine' tk 12 (.pointer (some ⟨pb,k * 14,none⟩)) rfl rfl (.inl ⟨by rfl,fun u hu=>(by go_simp;all_goals first | omega | (rw [IntKind.wrap_i64];omega) | (rw [if_pos (by omega)];congr;all_goals omega))⟩) hHeld ?_
     simp only [sq1,sq0]
     refine wpAnyH_ready (rs:=[9,13]) (by kernel_rfl) (by simp) ?_
     refine AllReadyH.cons rfl (fun K hK=>?_) (AllReadyH.cons rfl (fun K hK=>?_) AllReadyH.nil)
     rotate_left
     rw [if_pos (by rfl)]
     refine wp_load_midL 74 rfl 41 (.tmp 73) rfl pb (k * 14) rfl (g k) _ (HR2.out.drew.range hk) Tryz.underlying41 rfl (sizeFLD14 (HR2.out.len _ hk)) ?_
     refine hK.out _ _ trivial (fun _=>?_)
     clear hK K
     simp only [sq1,sq0]
     refine rd1 9 rfl (fun K hK=>?_)
     rw [if_pos (by rfl)]
     refine wp_load_midL 70 rfl 41 (.tmp 69) rfl pb ((k+1) * 14) rfl (g (k+1)) _ (HR2.out.drew.range hk1) Tryz.underlying41 rfl (sizeFLD14 (HR2.out.len _ hk1)) ?_
     refine hK.out _ _ trivial (fun _=>?_)
     clear hK K
     simp only [sq1,sq0]
     rotate_left
     rw [if_pos (by rfl)]
     refine wp_load_midL 70 rfl 41 (.tmp 69) rfl pb ((k+1) * 14) rfl (g (k+1)) _ (HR2.out.drew.range hk1) Tryz.underlying41 rfl (sizeFLD14 (HR2.out.len _ hk1)) ?_
     refine hK.out _ _ trivial (fun _=>?_)
     clear hK K
     simp only [sq1,sq0]
     refine rd1 13 rfl (fun K hK=>?_)
     rw [if_pos (by rfl)]
     refine wp_load_midL 74 rfl 41 (.tmp 73) rfl pb (k * 14) rfl (g k) _ (HR2.out.drew.range hk) Tryz.underlying41 rfl (sizeFLD14 (HR2.out.len _ hk)) ?_
     refine hK.out _ _ trivial (fun _=>?_)
     clear hK K
     simp only [sq1,sq0]
     all_goals
      refine' tk 14 (.pointer (some ⟨pb,k * 14,none⟩)) rfl rfl (.inl ⟨by rfl,fun u hu=>(by go_simp;all_goals first | omega | (rw [IntKind.wrap_i64];omega) | (rw [if_pos (by omega)];congr;all_goals omega))⟩) hHeld ?_
      simp only [sq1,sq0]
      refine rd1 15 rfl (fun K hK=>?_)
      rw [if_pos (by rfl)]
      refine wp_store_atL rfl 41 _ _ rfl pb (k * 14) (g (k+1)) rfl rfl 41 (flatR n g++tl) (flatR n (upd g k (g (k+1)))++tl) HR2.out.drew.row (sizeFLD14 (HR2.out.len _ hk1)) (flatR_set HR2.out.len (HR2.out.len _ hk1) hk) (fit14 HR2.out.len (HR2.out.len _ hk1) hk) (HR2.out.one _ hk1) ?_
      refine hK.out _ _ trivial (fun _=>?_)
      clear hK K
      have HS1:=Hd (HR2.out.drew.put hk hk1)
      refine' tk 16 (.pointer (some ⟨pb,(k+1) * 14,none⟩)) rfl rfl (.inl ⟨by rfl,fun u hu=>(by go_simp;all_goals first | omega | (rw [IntKind.wrap_i64];omega) | (rw [if_pos (by omega)];congr;all_goals omega))⟩) hHeld ?_
      simp only [sq1,sq0]
      refine rd1 17 rfl (fun K hK=>?_)
      rw [if_pos (by rfl)]
      refine wp_store_atL rfl 41 _ _ rfl pb ((k+1) * 14) (g k) rfl rfl 41 (flatR n (upd g k (g (k+1)))++tl) (flatR n (upd (upd g k (g (k+1))) (k+1) (g k))++tl) HS1.out.row (sizeFLD14 (HR2.out.len _ hk)) (flatR_set HS1.out.len (HR2.out.len _ hk) hk1) (fit14 HS1.out.len (HR2.out.len _ hk) hk1) (HR2.out.one _ hk) ?_
      refine hK.out _ _ trivial (fun _=>?_)
      clear hK K HS1
      have HS2:=Hd (HR2.out.drew.swapped hk hk1)
      have HF3:=Hd (HF2.out.drew.swapped n g tl k (k+1))
      refine wpAnyH_done (by kernel_rfl) ?_ _
      go_wp2_with fail
      go_roundw
      case rel=>exact ⟨k+1,_,by go_num,by omega,by omega,HS2.out,HF3.out,by rw [HG.out,up1_s f (a:=a) (k:=k) hak]⟩
      case measure=>simp [intOf];omega
    ·have hk2:=Hd (show k+1=i by omega)
     go_wp2_with fail
     (try simp only [Exit.inBlock,Exit.then])
     refine bodyPost_ret (results_none rfl _ _ _) rfl ?_
     exact ⟨rfl,HF2.out,g,HR2.out,by rw [HG.out,hk2.out];exact up1_sorted ordR (by omega) (by omega) (H1.out ▸ HS.out) (fun h h4 h5=>HLO.out h (by have:=H1.out;omega) h5) HHI.out⟩
set_option maxRecDepth 100000 in
set_option maxHeartbeats 6400000 in
theorem symb_ex (n c pb:Nat) (f:Nat→List Value) (tl:List Value) (w:World) (a m b:Nat) (h0:a+1<m) (h1:b=m+1) (h3:b≤n) (hn:n≤4294967296) (S:SortedOn LeR f a m) (R:RowsF w pb n f tl) :
 Calls Tryz.prog 305 #[.slice (some ⟨pb,0,none⟩) n c,.int .i64 a,.int .i64 m,.int .i64 b,.func (.func 258) #[] #[]] w (SrtR pb n tl (fun g=>PermOn a b f g∧SortedOn LeR g a b) w):=by
 have HR:=Hd R
 have HS:=Hd S
 have H1:=Hd h1
 clear R S
 have hm1:((m:Int)-(a:Int)==1)=false:=by simp;omega
 have hm2:((b:Int)-(m:Int)==1)=true:=by simp;omega
 have hm:m<n:=by omega
 have hmb:m<b:=by omega
 clear h1
 go_enter Tryz.func305,Tryz.ntmps305
 go_wp2_with fail
 go_loopw [14,15] (fun x y wr=>∃ i j:Nat,x=.int .i64 i∧y=.int .i64 j∧a≤i∧i≤j∧j≤m∧RowsF wr pb n f tl∧FB pb w wr∧(∀ h,a≤h→h<i→LeR (f h) (f m))∧∀ h,j≤h→h<m→¬ LeR (f h) (f m)) (fun x y _=>(intOf y).toNat-(intOf x).toNat)
 case atStart=>exact ⟨a,m,rfl,rfl,by omega,by omega,by omega,HR.out,FB.refl _ _,fun h h4 h5=>by omega,fun h h4 h5=>by omega⟩
 case round =>
  obtain ⟨i,j,rfl,rfl,hi,hij,hj,hR,hF,hlo,hhi⟩:=hrel
  have HR1:=Hd hR
  have HF:=Hd hF
  have HLO:=Hd hlo
  have HHI:=Hd hhi
  clear hR hF hlo hhi HR
  by_cases hlt:i<j
  ·obtain ⟨h,hh0⟩:∃ h,h=(i+j) / 2:=⟨_,rfl⟩
   have hh:h<n:=by omega
   have hih:i≤h:=by omega
   have hhj:h<j:=by omega
   have e0:((i:Int)+(j:Int)) / 2=(h:Int):=by omega
   have E0:=Hd e0
   clear hh0 e0
   obtain ⟨x,hx⟩:∃ x,x=cmpS (keyR (f m)) (keyR (f h)):=⟨_,rfl⟩
   have HX:=Hd hx
   clear hx
   go_wp2_with fail
   rw [E0.out]
   refine wp_region_held_drew (S:=fun u=>RowsF u pb n f tl∧FB pb w u) (by kernel_rfl) ⟨HR1.out.drew,HF.out.drew⟩ (fun hHeld=>?_)
   refine' tk 0 (.func (.func 258) #[] #[]) rfl rfl (.inl ⟨by rfl,fun u hu=>(by go_simp)⟩) hHeld ?_
   simp only [sq1,sq0]
   refine' tk 1 (.slice (some ⟨pb,0,none⟩) n c) rfl rfl (.inl ⟨by rfl,fun u hu=>(by go_simp)⟩) hHeld ?_
   simp only [sq1,sq0]
   refine' tk 2 (.int .i64 ((m:Nat):Int)) rfl rfl (.inl ⟨by rfl,fun u hu=>(by go_simp)⟩) hHeld ?_
   simp only [sq1,sq0]
   refine' tk 3 (.pointer (some ⟨pb,m * 14,none⟩)) rfl rfl (.inl ⟨by rfl,fun u hu=>(by go_simp;all_goals first | omega | (rw [IntKind.wrap_i64];omega) | (rw [if_pos (by omega)];congr;all_goals omega))⟩) hHeld ?_
   simp only [sq1,sq0]
   refine' tk 4 (.agg (f m).toArray) rfl rfl (yieldsIf_load_mid (by kernel_rfl) 41 _ rfl pb (m * 14) rfl (f m) _ (fun u hu=>hu.1.range hm) Tryz.underlying41 rfl (sizeFLD14 (HR1.out.len _ hm))) hHeld ?_
   simp only [sq1,sq0]
   refine' tk 5 (.slice (some ⟨pb,0,none⟩) n c) rfl rfl (.inl ⟨by rfl,fun u hu=>(by go_simp)⟩) hHeld ?_
   simp only [sq1,sq0]
   refine' tk 6 (.int .i64 ((h:Nat):Int)) rfl rfl (.inl ⟨by rfl,fun u hu=>(by go_simp)⟩) hHeld ?_
   simp only [sq1,sq0]
   refine' tk 7 (.pointer (some ⟨pb,h * 14,none⟩)) rfl rfl (.inl ⟨by rfl,fun u hu=>(by go_simp;all_goals first | omega | (rw [IntKind.wrap_i64];omega) | (rw [if_pos (by omega)];congr;all_goals omega))⟩) hHeld ?_
   simp only [sq1,sq0]
   refine' tk 8 (.agg (f h).toArray) rfl rfl (yieldsIf_load_mid (by kernel_rfl) 41 _ rfl pb (h * 14) rfl (f h) _ (fun u hu=>hu.1.range hh) Tryz.underlying41 rfl (sizeFLD14 (HR1.out.len _ hh))) hHeld ?_
   simp only [sq1,sq0]
   refine rd1 9 rfl (fun K hK=>?_)
   rw [if_pos (by rfl)]
   go_simp
   refine (keycmp_ex (f m) (f h) _ _ (HR1.out.key _ hm) (HR1.out.key _ hh) _).mono ?_
   rintro e u1 ⟨rfl,hbC⟩
   rw [← HX.out]
   refine hK.out _ _ ⟨hHeld.1.fb hbC,hHeld.2.trans (FB.of_below hbC)⟩ (fun hHeld1=>?_)
   clear hK K hbC hHeld
   have hHeld:=hHeld1
   clear hHeld1
   refine' tk 10 (.bool (decide (x<0))) rfl rfl (.inl ⟨by rfl,fun u hu=>(by go_simp)⟩) hHeld ?_
   simp only [sq1,sq0]
   refine' tk 11 (.bool (!(decide (x<0)))) rfl rfl (.inl ⟨by rfl,fun u hu=>(by go_simp)⟩) hHeld ?_
   simp only [sq1,sq0]
   refine wpAnyH_done (by kernel_rfl) ?_ _
   have HR4:=Hd hHeld.1
   have HF4:=Hd hHeld.2
   clear hHeld
   by_cases hc:x<0
   ·have HI2:=Hd (show ∀ h',h≤h'→h'<m→¬ LeR (f h') (f m) from fun h' h4 h5 hl=>leR_yes HX.out hc (ordR.trans _ _ _ (HS.out.le ordR (by omega) h4 h5) hl))
    rw [decide_eq_true hc]
    simp only [Bool.not_true]
    go_wp2_with fail
    go_roundw
    case rel=>exact ⟨i,h,rfl,by go_num,hi,by omega,by omega,HR4.out,HF4.out,HLO.out,HI2.out⟩
    case measure=>simp [intOf];omega
   ·have LO2:=Hd (show ∀ h',a≤h'→h'<h+1→LeR (f h') (f m) from fun h' h4 h5=>ordR.trans _ _ _ (HS.out.le ordR h4 (by omega) (by omega)) (leR_no HX.out hc))
    rw [decide_eq_false hc]
    simp only [Bool.not_false]
    go_wp2_with fail
    go_roundw
    case rel=>exact ⟨h+1,j,by go_num,rfl,by omega,by omega,hj,HR4.out,HF4.out,LO2.out,HHI.out⟩
    case measure=>simp [intOf];omega
  ·obtain rfl:i=j:=by omega
   go_wp2_with fail
   go_loopw [17] (fun x wr=>∃ (k:Nat) (g:Nat→List Value),x=.int .i64 k∧i≤k∧k≤m∧RowsF wr pb n g tl∧FB pb w wr∧g=dn1 f k m) (fun x _=>(intOf x).toNat)
   case atStart=>exact ⟨m,f,rfl,by omega,Nat.le_refl _,HR1.out,HF.out,(dn1_0 f m).symm⟩
   case round =>
    obtain ⟨k,g,rfl,hik,hkm,hR,hF,hg⟩:=hrel
    have HR2:=Hd hR
    have HF2:=Hd hF
    have HG:=Hd hg
    clear hR hF hg HR1 HF
    by_cases hlt:i<k
    ·obtain ⟨q,rfl⟩:∃ q,k=q+1:=⟨k-1,by omega⟩
     have hk1:q+1<n:=by omega
     have hk:q<n:=by omega
     go_wp2_with fail
     refine wp_region_held_drew (S:=fun _=>True) (by kernel_rfl) trivial (fun hHeld=>?_)
     refine' tk 0 (.slice (some ⟨pb,0,none⟩) n c) rfl rfl (.inl ⟨by rfl,fun u hu=>(by go_simp)⟩) hHeld ?_
     simp only [sq1,sq0]
     refine' tk 1 (.int .i64 ((q+1:Nat):Int)) rfl rfl (.inl ⟨by rfl,fun u hu=>(by go_simp)⟩) hHeld ?_
     simp only [sq1,sq0]
     refine' tk 2 (.slice (some ⟨pb,0,none⟩) n c) rfl rfl (.inl ⟨by rfl,fun u hu=>(by go_simp)⟩) hHeld ?_
     simp only [sq1,sq0]
     refine' tk 3 (.int .i64 ((q+1:Nat):Int)) rfl rfl (.inl ⟨by rfl,fun u hu=>(by go_simp)⟩) hHeld ?_
     simp only [sq1,sq0]
     refine' tk 4 (.int .i64 ((q:Nat):Int)) rfl rfl (.inl ⟨by rfl,fun u hu=>(by go_simp;all_goals first | omega | (rw [IntKind.wrap_i64];omega) | (rw [if_pos (by omega)];congr;all_goals omega))⟩) hHeld ?_
     simp only [sq1,sq0]
     refine' tk 5 (.slice (some ⟨pb,0,none⟩) n c) rfl rfl (.inl ⟨by rfl,fun u hu=>(by go_simp)⟩) hHeld ?_
     simp only [sq1,sq0]
     refine' tk 6 (.int .i64 ((q+1:Nat):Int)) rfl rfl (.inl ⟨by rfl,fun u hu=>(by go_simp)⟩) hHeld ?_
     simp only [sq1,sq0]
     refine' tk 7 (.int .i64 ((q:Nat):Int)) rfl rfl (.inl ⟨by rfl,fun u hu=>(by go_simp;all_goals first | omega | (rw [IntKind.wrap_i64];omega) | (rw [if_pos (by omega)];congr;all_goals omega))⟩) hHeld ?_
     simp only [sq1,sq0]
     refine' tk 8 (.pointer (some ⟨pb,q * 14,none⟩)) rfl rfl (.inl ⟨by rfl,fun u hu=>(by go_simp;all_goals first | omega | (rw [IntKind.wrap_i64];omega) | (rw [if_pos (by omega)];congr;all_goals omega))⟩) hHeld ?_
     simp only [sq1,sq0]
     refine' tk 10 (.slice (some ⟨pb,0,none⟩) n c) rfl rfl (.inl ⟨by rfl,fun u hu=>(by go_simp)⟩) hHeld ?_
     simp only [sq1,sq0]
     refine' tk 11 (.int .i64 ((q+1:Nat):Int)) rfl rfl (.inl ⟨by rfl,fun u hu=>(by go_simp)⟩) hHeld ?_
     simp only [sq1,sq0]
     refine' tk 12 (.pointer (some ⟨pb,(q+1) * 14,none⟩)) rfl rfl (.inl ⟨by rfl,fun u hu=>(by go_simp;all_goals first | omega | (rw [IntKind.wrap_i64];omega) | (rw [if_pos (by omega)];congr;all_goals omega))⟩) hHeld ?_
     simp only [sq1,sq0]
     refine wpAnyH_ready (rs:=[9,13]) (by kernel_rfl) (by simp) ?_
     refine AllReadyH.cons rfl (fun K hK=>?_) (AllReadyH.cons rfl (fun K hK=>?_) AllReadyH.nil)
     rotate_left
     rw [if_pos (by rfl)]
     refine wp_load_midL 126 rfl 41 (.tmp 125) rfl pb ((q+1) * 14) rfl (g (q+1)) _ (HR2.out.drew.range hk1) Tryz.underlying41 rfl (sizeFLD14 (HR2.out.len _ hk1)) ?_
     refine hK.out _ _ trivial (fun _=>?_)
     clear hK K
     simp only [sq1,sq0]
     refine rd1 9 rfl (fun K hK=>?_)
     rw [if_pos (by rfl)]
     refine wp_load_midL 122 rfl 41 (.tmp 121) rfl pb (q * 14) rfl (g q) _ (HR2.out.drew.range hk) Tryz.underlying41 rfl (sizeFLD14 (HR2.out.len _ hk)) ?_
     refine hK.out _ _ trivial (fun _=>?_)
     clear hK K
     simp only [sq1,sq0]
     rotate_left
     rw [if_pos (by rfl)]
     refine wp_load_midL 122 rfl 41 (.tmp 121) rfl pb (q * 14) rfl (g q) _ (HR2.out.drew.range hk) Tryz.underlying41 rfl (sizeFLD14 (HR2.out.len _ hk)) ?_
     refine hK.out _ _ trivial (fun _=>?_)
     clear hK K
     simp only [sq1,sq0]
     refine rd1 13 rfl (fun K hK=>?_)
     rw [if_pos (by rfl)]
     refine wp_load_midL 126 rfl 41 (.tmp 125) rfl pb ((q+1) * 14) rfl (g (q+1)) _ (HR2.out.drew.range hk1) Tryz.underlying41 rfl (sizeFLD14 (HR2.out.len _ hk1)) ?_
     refine hK.out _ _ trivial (fun _=>?_)
     clear hK K
     simp only [sq1,sq0]
     all_goals
      refine' tk 14 (.pointer (some ⟨pb,(q+1) * 14,none⟩)) rfl rfl (.inl ⟨by rfl,fun u hu=>(by go_simp;all_goals first | omega | (rw [IntKind.wrap_i64];omega) | (rw [if_pos (by omega)];congr;all_goals omega))⟩) hHeld ?_
      simp only [sq1,sq0]
      refine rd1 15 rfl (fun K hK=>?_)
      rw [if_pos (by rfl)]
      refine wp_store_atL rfl 41 _ _ rfl pb ((q+1) * 14) (g q) rfl rfl 41 (flatR n g++tl) (flatR n (upd g (q+1) (g q))++tl) HR2.out.drew.row (sizeFLD14 (HR2.out.len _ hk)) (flatR_set HR2.out.len (HR2.out.len _ hk) hk1) (fit14 HR2.out.len (HR2.out.len _ hk) hk1) (HR2.out.one _ hk) ?_
      refine hK.out _ _ trivial (fun _=>?_)
      clear hK K
      have HS1:=Hd (HR2.out.drew.put hk1 hk)
      refine' tk 16 (.pointer (some ⟨pb,q * 14,none⟩)) rfl rfl (.inl ⟨by rfl,fun u hu=>(by go_simp;all_goals first | omega | (rw [IntKind.wrap_i64];omega) | (rw [if_pos (by omega)];congr;all_goals omega))⟩) hHeld ?_
      simp only [sq1,sq0]
      refine rd1 17 rfl (fun K hK=>?_)
      rw [if_pos (by rfl)]
      refine wp_store_atL rfl 41 _ _ rfl pb (q * 14) (g (q+1)) rfl rfl 41 (flatR n (upd g (q+1) (g q))++tl) (flatR n (upd (upd g (q+1) (g q)) q (g (q+1)))++tl) HS1.out.row (sizeFLD14 (HR2.out.len _ hk1)) (flatR_set HS1.out.len (HR2.out.len _ hk1) hk) (fit14 HS1.out.len (HR2.out.len _ hk1) hk) (HR2.out.one _ hk1) ?_
      refine hK.out _ _ trivial (fun _=>?_)
      clear hK K HS1
      have HS2:=Hd (HR2.out.drew.swapped hk1 hk)
      have HF3:=Hd (HF2.out.drew.swapped n g tl (q+1) q)
      refine wpAnyH_done (by kernel_rfl) ?_ _
      go_wp2_with fail
      go_roundw
      case rel=>exact ⟨q,_,by go_num,by omega,by omega,HS2.out,HF3.out,by rw [HG.out,dn1_s f (i:=q) (m:=m) (by omega)]⟩
      case measure=>simp [intOf]
    ·have hk2:=Hd (show k=i by omega)
     go_wp2_with fail
     (try simp only [Exit.inBlock,Exit.then])
     refine bodyPost_ret (results_none rfl _ _ _) rfl ?_
     exact ⟨rfl,HF2.out,g,HR2.out,by rw [HG.out,hk2.out,H1.out];exact dn1_sorted ordR hi (by omega) HS.out HLO.out HHI.out⟩
end Go.Proofs.YtagkjofpncpcpaaGreatDoor
