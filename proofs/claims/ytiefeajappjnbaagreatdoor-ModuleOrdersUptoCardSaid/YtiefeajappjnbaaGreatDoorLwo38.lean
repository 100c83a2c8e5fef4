/- The law ModuleOrders: it says yes. -/
import Derived.Test.YtiefeajappjnbaaGreatDoorGA
import Derived.Test.YtiefeajappjnbaaGreatDoorFwr38
import Derived.BigQuiet
namespace Go.Proofs.YtiefeajappjnbaaGreatDoor
open Go.RowKit
def YesO (w:World) (e:Ending) (w':World):Prop:=e=.returned (.bool true)∧Below w.heap.size w w'
def zmE:ExprD:=.mk 0 ⟨#[]⟩ zvM [] []
def zmC:List Value:=[.int .i64 0,.string ⟨#[]⟩,.int .i64 0,.bool false,.bool false,.string ⟨#[]⟩,.int .i64 0,.int .i64 0,.int .i64 0,.int .i64 0,.int .i64 0,.string ⟨#[]⟩,.slice none 0 0,.slice none 0 0,.slice none 0 0,.slice none 0 0,.slice none 0 0]
theorem zmE_at (w:World) (B N:Nat):ExprD.At w B N zmE zmC:=by
 refine ⟨_,none,none,0,0,rfl,?_,zeroV_n w B N,trivial,trivial,Nat.le_refl _⟩
 simp [ExprD.Own,ExprD.op,ExprD.name,ExprD.args,ExprD.funcs,I64,ByteArray.size]
theorem zmM_at (w:World) (B N:Nat):ModD.At w B N ⟨⟨#[]⟩,[],[],zmE⟩ (.string ⟨#[]⟩::.slice none 0 0::.slice none 0 0::zmC) :=
 ⟨none,none,0,0,zmC,rfl,by simp [ByteArray.size],by simp,by simp,trivial,trivial,zmE_at w B N⟩
theorem ordF_len (l:List ModD):∀ (k:Nat) (ch:List Bool) (out r:List Nat),ordF l k ch out=some r→r.length=out.length+k
 | 0,_,out,r,h=>by
   rw [ordF] at h
   cases h
   rfl
 | k+1,ch,out,r,h=>by
   rw [ordF] at h
   split at h
   ·cases h
   ·have:=ordF_len l k _ _ r h
    rw [List.length_append,List.length_singleton] at this
    omega
theorem ordR_len (l:List ModD):(ordR l).1.length≤l.length:=by
 unfold ordR
 split
 ·exact Nat.zero_le _
 split
 ·exact Nat.zero_le _
 split
 ·exact Nat.zero_le _
 split
 ·exact Nat.zero_le _
 ·rename_i out h
  have:=ordF_len l _ _ _ _ h
  simp at this ⊢
  omega
set_option maxRecDepth 100000 in
set_option maxHeartbeats 6400000 in
theorem lawO (l:List ModD) (a:Option Addr) (c:Nat) (w:World) (N:Nat) (hN:N≤1048576) (hN1:1≤N) (h4:4≤w.heap.size) (hE:Env w) (hA:ModsAt w w.heap.size N l a) :
 Calls Tryz.prog 5 #[.slice a l.length c] w (YesO w):=by
 have HA:=Hd hA
 have HE:=Hd hE
 clear hA hE
 obtain ⟨out,hout⟩:∃ out,(ordR l).1=out:=⟨_,rfl⟩
 obtain ⟨z,hz⟩:∃ z,(ordR l).2=z:=⟨_,rfl⟩
 have HO:=Hd hout
 have HZ:=Hd hz
 clear hout hz
 go_enter Tryz.func5,Tryz.ntmps5
 go_wp2_with fail
 refine (fewer_n ⟨⟨#[]⟩,[],[],zmE⟩ l a c w w.heap.size N (.string ⟨#[]⟩::.slice none 0 0::.slice none 0 0::zmC) hN hN1 (Nat.le_refl _) HA.out (zmM_at _ _ _)).mono ?_
 rintro e w1 ⟨k,rfl,HK,hb1⟩
 have HB1:=Hd hb1
 clear hb1
 cases k
 ·go_wp2_with fail
  go_ret
  exact ⟨rfl,HB1.out⟩
 obtain ⟨hl,hs⟩:=HK.out rfl
 have HS:=Hd hs
 clear HK hs
 go_wp2_with fail
 refine (order_p l a c w1 w.heap.size N hN h4 HB1.out.size (HE.out.then HB1.out) hl (fun i hi=>⟨(HS.out i hi).1,fun _=>(HS.out i hi).2⟩) (ModsAt.below HB1.out _ HA.out)).mono ?_
 rintro e w2 ⟨v,rfl,hv,hb2⟩
 rw [HO.out] at hv
 rw [HZ.out]
 have HB2:=Hd (belowThen HB1.out hb2)
 obtain ⟨a1,c1,rfl,hv1⟩:=hv
 have HV1:=Hd hv1
 clear hb2 hv1
 go_wp2_with fail
 refine (order_r l a c w2 w.heap.size N hN HB2.out.size hl (ModsAt.below HB2.out _ HA.out)).mono ?_
 rintro e w3 ⟨v,rfl,hv,hb3⟩
 rw [HO.out] at hv
 rw [HZ.out]
 have HB3:=Hd (belowThen HB2.out hb3)
 have HB23:=Hd hb3
 obtain ⟨a2,c2,rfl,hv2⟩:=hv
 have HV2:=Hd hv2
 have hol:out.length≤20:=by rw [← HO.out];exact Nat.le_trans (ordR_len l) hl
 have hzz:(z==z)=true:=by simp
 clear hb3 hv2
 go_wp2_with fail
 go_simp
 go_loopw [7] (fun i wr=>∃ k:Nat,k≤out.length∧i=.int .i64 k∧∃ q,wr=w3.drewN q) (fun i _=>out.length-(intOf i).toNat)
 case atStart=>exact ⟨0,by omega,rfl,0,rfl⟩
 case round =>
  obtain ⟨k,hk,rfl,q,rfl⟩:=hrel
  by_cases hlt:k<out.length
  case neg =>
   go_wp2_with fail
   go_ret
   exact ⟨rfl,belowThen HB3.out (below_drewN _ _)⟩
  have hne:out≠[]:=by intro h;rw [h] at hlt;simp at hlt
  obtain ⟨g1,rfl,hc1⟩:=HV1.out hne
  obtain ⟨g2,rfl,hc2⟩:=HV2.out hne
  have q1:w3.cell? ⟨g1,k,none⟩=some (.int .i64 (out[k]:Int)):=by
   have h0:=hc1.getA (j:=k) (v:=.int .i64 (out[k]:Int)) (by rw [List.getElem?_map,List.getElem?_eq_getElem hlt];rfl)
   rw [Nat.zero_add] at h0
   rw [HB23.out.cell (cell_lt h0)]
   exact h0
  have q2:w3.cell? ⟨g2,k,none⟩=some (.int .i64 (out[k]:Int)):=by
   have h0:=hc2.getA (j:=k) (v:=.int .i64 (out[k]:Int)) (by rw [List.getElem?_map,List.getElem?_eq_getElem hlt];rfl)
   rwa [Nat.zero_add] at h0
  clear hc1 hc2 hne
  go_wp2_with fail
  go_quiet (fail)
  go_wp2_with fail
  go_roundw
  case rel=>exact ⟨k+1,by omega,by go_num,_,rfl⟩
  case measure=>simp [intOf];omega
end Go.Proofs.YtiefeajappjnbaaGreatDoor
