/- datakitref38.insert gives an own list (printed by geninso.py). -/
import Derived.Test.YticpebgjbfanpaaGreatDoorGA
import Derived.Test.YticpebgjbfanpaaGreatDoorGV
import Derived.Test.YticpebgjbfanpaaGreatDoorGR
import Derived.Test.YticpebgjbfanpaaGreatDoorGX
import Derived.Test.YticpebgjbfanpaaGreatDoorFnd39
namespace Go.Proofs.YticpebgjbfanpaaGreatDoor
open Go.RowKit
def NmsO (lo:Nat) (l:List ByteArray) (w:World) (e:Ending) (w':World):Prop:=∃ (a:Option Addr) (c:Nat),e=.returned (.slice a l.length c)∧w'.ownsRow lo 9 1 (.slice a l.length c) l.length (l.map .string)∧Below w.heap.size w w'
theorem own_strs {w:World} {lo:Nat} {l:List ByteArray} {v:Value} {n:Nat} {xs:List Value} (h:w.ownsRow lo 9 1 v n xs) (hn:n=l.length) (hx:xs=l.map .string):∃ a c,v=.slice a l.length c∧w.ownsRow lo 9 1 (.slice a l.length c) l.length (l.map .string):=by
 subst hn hx
 rcases h.2 with ⟨hv,h0⟩ | ⟨g,cap,cur,hv,_⟩
 ·exact ⟨none,0,by rw [h0];exact hv,by rw [hv] at h;rw [h0] at h ⊢;exact h⟩
 ·exact ⟨_,cap,hv,by rw [hv] at h;exact h⟩
theorem own_nms {w:World} {lo B:Nat} {l:List ByteArray} {a:Option Addr} {c:Nat} (h:w.ownsRow lo 9 1 (.slice a l.length c) l.length (l.map .string)) (hB:w.heap.size≤B):l.length≤c∧c≤maxLen∧NmsAt w lo B l a:=by
 obtain ⟨a',c',hv,h1,h2,h3⟩:=nms_own h (Nat.le_refl lo)
 injection hv with q1 q2 q3
 subst q1 q3
 exact ⟨h1,h2,h3.mono hB⟩
theorem own_then {w w':World} {lo sz n:Nat} {t:TypeId} {v:Value} {xs:List Value} (h:w.ownsRow lo t sz v n xs) (hb:Below w.heap.size w w'):w'.ownsRow lo t sz v n xs:=by
 refine ⟨h.1,?_⟩
 rcases h.2 with hv | ⟨g,cap,cur,hv,hl,hg,hr⟩
 ·exact .inl hv
 ·exact .inr ⟨g,cap,cur,hv,hl,(hb.block g (Array.getElem?_eq_some_iff.1 hg).1).trans hg,hr⟩
theorem own_low {w:World} {lo lo' sz n:Nat} {t:TypeId} {v:Value} {xs:List Value} (h:w.ownsRow lo t sz v n xs) (hb:lo'≤lo):w.ownsRow lo' t sz v n xs:=by
 refine ⟨h.1,?_⟩
 rcases h.2 with hv | ⟨g,cap,cur,hv,hl,hr⟩
 ·exact .inl hv
 ·exact .inr ⟨g,cap,cur,hv,Nat.le_trans hb hl,hr⟩
theorem nmo_ret {lo:Nat} {l:List ByteArray} {w w':World} {v:Value} {n:Nat} {xs:List Value} (h:w'.ownsRow w.heap.size 9 1 v n xs) (hlo:lo≤w.heap.size) (hn:n=l.length) (hx:xs=l.map .string) (hb:Below w.heap.size w w'):NmsO lo l w (.returned v) w':=by
 obtain ⟨a,c,rfl,h2⟩:=own_strs h hn hx
 exact ⟨a,c,rfl,own_low h2 hlo,hb⟩
set_option maxRecDepth 100000 in
set_option maxHeartbeats 3200000 in
theorem insert_o (l:List ByteArray) (s:ByteArray) (a:Option Addr) (c:Nat) (w:World) (lo:Nat) (hl:l.length≤1099511627776) (hlo:lo≤w.heap.size) (ho:w.ownsRow lo 9 1 (.slice a l.length c) l.length (l.map .string)) (hnil:l=[]→a=none∧c=0) :
 Calls Tryz.prog 40 #[.slice a l.length c,.string s] w (NmsO lo (insR l s) w):=by
 obtain ⟨hc1,hc2,h⟩:=own_nms ho (Nat.le_refl _)
 have HW:=Hd ho
 clear ho
 obtain ⟨B,hB0⟩:∃ B,B=w.heap.size:=⟨_,rfl⟩
 rw [← hB0] at h
 have hB:B≤w.heap.size:=by omega
 clear hB0
 obtain ⟨i0,hi,hz0,hz1,hz2⟩:=info_parts infoSt
 have HI:=Hd hi
 have HZ0:=Hd hz0
 have HZ1:=Hd hz1
 have HZ2:=Hd hz2
 have HA:=Hd h
 clear hi hz0 hz1 hz2 h
 by_cases hn:l=[]
 ·obtain ⟨rfl,rfl⟩:=hnil hn
  subst hn
  clear hnil hc1 hc2
  go_enter Tryz.func40,Tryz.ntmps40
  go_wp2_with fail
  go_simp
  go_loopw [5] (fun i wr=>i=.int .i64 0∧wr=w) (fun _ _=>0)
  case atStart=>exact ⟨rfl,rfl⟩
  case round =>
   obtain ⟨rfl,rfl⟩:=hrel
   have HR:=Hd (show insR [] s=[s] from rfl)
   go_wp2_with (at_builtin;refine wpList_append_src rfl _ _ 55 rfl wr.heap.size 9 i0 (.string ⟨#[]⟩) 1 16 Tryz.underlying55 HI.out HZ0.out HZ1.out HZ2.out rfl (by decide) _ _ _ rfl (World.ownsRow_made wr #[] 0 (Nat.le_refl _) (Nat.zero_le _) rfl) none 0 _ [] rfl rfl (src_none _ _) (by simp) ?c4 ?c5 ?c6 ?_)
   case c4=>unfold maxLen;omega
   case c5=>omega
   case c6=>simp
   intro v1 w1 hown1 hgrow1
   have HO1:=Hd hown1
   have HB1:=Hd (show Below wr.heap.size wr w1 from (belowBox wr _).grown hgrow1 (by simp) (by intro k hk;simp [Value.ownBlock] at hk;omega))
   clear hown1 hgrow1
   go_wp2_with (at_builtin;refine wpList_append_src rfl _ _ 55 rfl wr.heap.size 9 i0 (.string ⟨#[]⟩) 1 16 Tryz.underlying55 HI.out HZ0.out HZ1.out HZ2.out rfl (by decide) _ _ _ rfl (HO1.out.alloc _) (some ⟨w1.heap.size,0,none⟩) 1 1 [.string s] rfl rfl (src_new w1 [.string s] 9 1) ?c3 ?c4 ?c5 ?c6 ?_)
   case c3=>intro u hu;simp at hu;subst hu;rfl
   case c4=>unfold maxLen;omega
   case c5=>omega
   case c6=>have:=HB1.out.size;simp;omega
   intro v2 w2 hown2 hgrow2
   have HB2:=Hd (grown_below HB1.out hgrow2 (fun k hk=>(HO1.out.lt k hk).1))
   have HO2:=Hd hown2
   clear hown2 hgrow2
   go_wp2_with (at_builtin;refine wpList_append_src rfl _ _ 55 rfl wr.heap.size 9 i0 (.string ⟨#[]⟩) 1 16 Tryz.underlying55 HI.out HZ0.out HZ1.out HZ2.out rfl (by decide) _ _ _ rfl HO2.out none 0 _ [] rfl rfl (src_none _ _) (by simp) ?c4 ?c5 ?c6 ?_)
   case c4=>unfold maxLen;omega
   case c5=>omega
   case c6=>exact HB2.out.size
   intro v3 w3 hown3 hgrow3
   have HB3:=Hd (show Below wr.heap.size wr w3 from HB2.out.grown hgrow3 HB2.out.size (fun k hk=>(HO2.out.lt k hk).1))
   have HO3:=Hd hown3
   clear hown3 hgrow3
   go_wp2
   go_ret
   exact nmo_ret HO3.out hlo (by rw [HR.out];rfl) (by rw [HR.out];rfl) HB3.out
 obtain ⟨b,rfl,_,hb,hget⟩:=HA.out.get hn
 have HG:=Hd hget
 clear hget hnil
 go_enter Tryz.func40,Tryz.ntmps40
 go_wp2_with fail
 go_simp
 go_loopw [5] (fun i wr=>∃ k:Nat,k≤l.length∧i=.int .i64 k∧Hid (∀ j (hj:j<l.length),j<k→l[j].data.toList<s.data.toList)∧wr=w) (fun i _=>l.length-(intOf i).toNat)
 case atStart=>exact ⟨0,by omega,rfl,Hd (fun j _ hj=>absurd hj (by omega)),rfl⟩
 case round =>
  obtain ⟨k,hk,rfl,HN,rfl⟩:=hrel
  by_cases hlt:k<l.length
  case pos =>
   have e0:=HG.out k hlt
   cases hbl:Op.bytesLess l[k].toList s.toList
   case true =>
    have HN2:=Hd (show ∀ j (hj:j<l.length),j<k+1→l[j].data.toList<s.data.toList from fun j hj hjk=>by
     by_cases hjk2:j=k
     ·subst hjk2;exact less_true hbl
     ·exact HN.out j hj (by omega))
    go_wp2_with fail
    go_roundw
    case rel=>exact ⟨k+1,by omega,by go_num,HN2,trivial⟩
    case measure=>simp [intOf];omega
   cases he:(l[k].toList==s.toList)
   case true =>
    have HR:=Hd (show insR l s=l by
     rw [insR_at l s k hk HN.out (fun _=>less_false hbl),dif_pos hlt,if_pos (same_true he)])
    go_wp2_with fail
    go_ret
    exact ⟨some ⟨b,0,none⟩,c,by rw [HR.out];rfl,by rw [HR.out];exact HW.out,Below.refl _ _⟩
   have HR:=Hd (show insR l s=l.take k++s::l.drop k by
    rw [insR_at l s k hk HN.out (fun _=>less_false hbl),dif_pos hlt,if_neg (same_false he)])
   have hkc:k≤c:=by omega
   have HL3:=Hd (show (l.drop k).length=l.length-k from List.length_drop ..)
   go_wp2_with (at_builtin;refine wpList_append_src rfl _ _ 55 rfl wr.heap.size 9 i0 (.string ⟨#[]⟩) 1 16 Tryz.underlying55 HI.out HZ0.out HZ1.out HZ2.out rfl (by decide) _ _ _ rfl (World.ownsRow_made wr #[] 0 (Nat.le_refl _) (Nat.zero_le _) rfl) (some ⟨b,0,none⟩) k _ ((l.take k).map .string) rfl ?c1 ?c2 (nms_one _) ?c4 ?c5 ?c6 ?_)
   case c1=>rw [List.length_map,List.length_take,Nat.min_eq_left hk,Nat.mul_one]
   case c2=>exact src_take (cells_kept HG.out ((belowBox wr _).mono hB) hb) k
   case c4=>unfold maxLen;omega
   case c5=>omega
   case c6=>simp
   intro v1 w1 hown1 hgrow1
   have HO1:=Hd hown1
   have HB1:=Hd (show Below wr.heap.size wr w1 from (belowBox wr _).grown hgrow1 (by simp) (by intro k hk;simp [Value.ownBlock] at hk;omega))
   clear hown1 hgrow1
   go_wp2_with (at_builtin;refine wpList_append_src rfl _ _ 55 rfl wr.heap.size 9 i0 (.string ⟨#[]⟩) 1 16 Tryz.underlying55 HI.out HZ0.out HZ1.out HZ2.out rfl (by decide) _ _ _ rfl (HO1.out.alloc _) (some ⟨w1.heap.size,0,none⟩) 1 1 [.string s] rfl rfl (src_new w1 [.string s] 9 1) ?c3 ?c4 ?c5 ?c6 ?_)
   case c3=>intro u hu;simp at hu;subst hu;rfl
   case c4=>unfold maxLen;omega
   case c5=>omega
   case c6=>have:=HB1.out.size;simp;omega
   intro v2 w2 hown2 hgrow2
   have HB2:=Hd (grown_below HB1.out hgrow2 (fun k hk=>(HO1.out.lt k hk).1))
   have HO2:=Hd hown2
   clear hown2 hgrow2
   go_wp2_with (at_builtin;refine wpList_append_src rfl _ _ 55 rfl wr.heap.size 9 i0 (.string ⟨#[]⟩) 1 16 Tryz.underlying55 HI.out HZ0.out HZ1.out HZ2.out rfl (by decide) _ _ _ rfl HO2.out _ _ _ ((l.drop k).map .string) rfl ?c1 ?c2 (nms_one _) ?c4 ?c5 ?c6 ?_)
   case c1=>simp
   all_goals first
    | (unfold maxLen;omega)
    | omega
    | exact HB2.out.size
    | (exact src_drop (cells_kept HG.out (HB2.out.mono hB) hb) k _)
    | (rw [← List.map_drop];exact src_drop (cells_kept HG.out (HB2.out.mono hB) hb) k _)
    | (rw [List.drop_of_length_le (by simp;omega),show l.length-k=0 by omega];exact src_none _ _)
    | skip
   intro v3 w3 hown3 hgrow3
   have HB3:=Hd (show Below wr.heap.size wr w3 from HB2.out.grown hgrow3 HB2.out.size (fun k hk=>(HO2.out.lt k hk).1))
   have HO3:=Hd hown3
   clear hown3 hgrow3
   go_wp2
   go_ret
   exact nmo_ret HO3.out hlo (by rw [HR.out];simp;omega) (by rw [HR.out];simp) HB3.out
  case neg =>
   have HR:=Hd (show insR l s=l++[s] by
    rw [insR_at l s k hk HN.out (fun h=>absurd h hlt),dif_neg hlt])
   obtain rfl:k=l.length:=by omega
   clear hlt hk
   go_wp2_with (at_builtin;refine wpList_append_src rfl _ _ 55 rfl wr.heap.size 9 i0 (.string ⟨#[]⟩) 1 16 Tryz.underlying55 HI.out HZ0.out HZ1.out HZ2.out rfl (by decide) _ _ _ rfl (World.ownsRow_made wr #[] 0 (Nat.le_refl _) (Nat.zero_le _) rfl) (some ⟨b,0,none⟩) l.length _ (l.map .string) rfl ?d1 ?d2 (nms_one _) ?d4 ?d5 ?d6 ?_)
   case d1=>simp
   case d2=>exact (HA.out.keep (Kept.of_below ((belowBox wr _).mono hB))).src
   case d4=>unfold maxLen;omega
   case d5=>omega
   case d6=>simp
   intro v1 w1 hown1 hgrow1
   have HO1:=Hd hown1
   have HB1:=Hd (show Below wr.heap.size wr w1 from (belowBox wr _).grown hgrow1 (by simp) (by intro k hk;simp [Value.ownBlock] at hk;omega))
   clear hown1 hgrow1
   go_wp2_with (at_builtin;refine wpList_append_src rfl _ _ 55 rfl wr.heap.size 9 i0 (.string ⟨#[]⟩) 1 16 Tryz.underlying55 HI.out HZ0.out HZ1.out HZ2.out rfl (by decide) _ _ _ rfl (HO1.out.alloc _) (some ⟨w1.heap.size,0,none⟩) 1 1 [.string s] rfl rfl (src_new w1 [.string s] 9 1) ?d3 ?d4 ?d5 ?d6 ?_)
   case d3=>intro u hu;simp at hu;subst hu;rfl
   case d4=>unfold maxLen;omega
   case d5=>omega
   case d6=>have:=HB1.out.size;simp;omega
   intro v2 w2 hown2 hgrow2
   have HB2:=Hd (grown_below HB1.out hgrow2 (fun k hk=>(HO1.out.lt k hk).1))
   have HO2:=Hd hown2
   clear hown2 hgrow2
   go_wp2_with (at_builtin;refine wpList_append_src rfl _ _ 55 rfl wr.heap.size 9 i0 (.string ⟨#[]⟩) 1 16 Tryz.underlying55 HI.out HZ0.out HZ1.out HZ2.out rfl (by decide) _ _ _ rfl HO2.out _ 0 _ [] rfl rfl (src_none _ _) (by simp) (by unfold maxLen;omega) (by omega) HB2.out.size ?_)
   all_goals
    intro v3 w3 hown3 hgrow3
    have HB3:=Hd (show Below wr.heap.size wr w3 from HB2.out.grown hgrow3 HB2.out.size (fun k hk=>(HO2.out.lt k hk).1))
    have HO3:=Hd hown3
    clear hown3 hgrow3
    go_wp2
    go_ret
    exact nmo_ret HO3.out hlo (by rw [HR.out];simp) (by rw [HR.out];simp) HB3.out
set_option maxRecDepth 100000 in
set_option maxHeartbeats 3200000 in
theorem insert_f (l:List ByteArray) (s:ByteArray) (a:Option Addr) (c:Nat) (w:World) (lo B:Nat) (hl:l.length≤1099511627776) (hc1:l.length≤c) (hc2:c≤maxLen) (hB:B≤w.heap.size) (h:NmsAt w lo B l a) (hnil:l=[]→a=none∧c=0) (hm:memB l s=false) :
 Calls Tryz.prog 40 #[.slice a l.length c,.string s] w (NmsO w.heap.size (insR l s) w):=by
 have HM:=Hd hm
 clear hm
 obtain ⟨i0,hi,hz0,hz1,hz2⟩:=info_parts infoSt
 have HI:=Hd hi
 have HZ0:=Hd hz0
 have HZ1:=Hd hz1
 have HZ2:=Hd hz2
 have HA:=Hd h
 clear hi hz0 hz1 hz2 h
 by_cases hn:l=[]
 ·obtain ⟨rfl,rfl⟩:=hnil hn
  subst hn
  clear hnil hc1 hc2
  go_enter Tryz.func40,Tryz.ntmps40
  go_wp2_with fail
  go_simp
  go_loopw [5] (fun i wr=>i=.int .i64 0∧wr=w) (fun _ _=>0)
  case atStart=>exact ⟨rfl,rfl⟩
  case round =>
   obtain ⟨rfl,rfl⟩:=hrel
   have HR:=Hd (show insR [] s=[s] from rfl)
   go_wp2_with (at_builtin;refine wpList_append_src rfl _ _ 55 rfl wr.heap.size 9 i0 (.string ⟨#[]⟩) 1 16 Tryz.underlying55 HI.out HZ0.out HZ1.out HZ2.out rfl (by decide) _ _ _ rfl (World.ownsRow_made wr #[] 0 (Nat.le_refl _) (Nat.zero_le _) rfl) none 0 _ [] rfl rfl (src_none _ _) (by simp) ?c4 ?c5 ?c6 ?_)
   case c4=>unfold maxLen;omega
   case c5=>omega
   case c6=>simp
   intro v1 w1 hown1 hgrow1
   have HO1:=Hd hown1
   have HB1:=Hd (show Below wr.heap.size wr w1 from (belowBox wr _).grown hgrow1 (by simp) (by intro k hk;simp [Value.ownBlock] at hk;omega))
   clear hown1 hgrow1
   go_wp2_with (at_builtin;refine wpList_append_src rfl _ _ 55 rfl wr.heap.size 9 i0 (.string ⟨#[]⟩) 1 16 Tryz.underlying55 HI.out HZ0.out HZ1.out HZ2.out rfl (by decide) _ _ _ rfl (HO1.out.alloc _) (some ⟨w1.heap.size,0,none⟩) 1 1 [.string s] rfl rfl (src_new w1 [.string s] 9 1) ?c3 ?c4 ?c5 ?c6 ?_)
   case c3=>intro u hu;simp at hu;subst hu;rfl
   case c4=>unfold maxLen;omega
   case c5=>omega
   case c6=>have:=HB1.out.size;simp;omega
   intro v2 w2 hown2 hgrow2
   have HB2:=Hd (grown_below HB1.out hgrow2 (fun k hk=>(HO1.out.lt k hk).1))
   have HO2:=Hd hown2
   clear hown2 hgrow2
   go_wp2_with (at_builtin;refine wpList_append_src rfl _ _ 55 rfl wr.heap.size 9 i0 (.string ⟨#[]⟩) 1 16 Tryz.underlying55 HI.out HZ0.out HZ1.out HZ2.out rfl (by decide) _ _ _ rfl HO2.out none 0 _ [] rfl rfl (src_none _ _) (by simp) ?c4 ?c5 ?c6 ?_)
   case c4=>unfold maxLen;omega
   case c5=>omega
   case c6=>exact HB2.out.size
   intro v3 w3 hown3 hgrow3
   have HB3:=Hd (show Below wr.heap.size wr w3 from HB2.out.grown hgrow3 HB2.out.size (fun k hk=>(HO2.out.lt k hk).1))
   have HO3:=Hd hown3
   clear hown3 hgrow3
   go_wp2
   go_ret
   exact nmo_ret HO3.out (Nat.le_refl _) (by rw [HR.out];rfl) (by rw [HR.out];rfl) HB3.out
 obtain ⟨b,rfl,_,hb,hget⟩:=HA.out.get hn
 have HG:=Hd hget
 clear hget hnil
 go_enter Tryz.func40,Tryz.ntmps40
 go_wp2_with fail
 go_simp
 go_loopw [5] (fun i wr=>∃ k:Nat,k≤l.length∧i=.int .i64 k∧Hid (∀ j (hj:j<l.length),j<k→l[j].data.toList<s.data.toList)∧wr=w) (fun i _=>l.length-(intOf i).toNat)
 case atStart=>exact ⟨0,by omega,rfl,Hd (fun j _ hj=>absurd hj (by omega)),rfl⟩
 case round =>
  obtain ⟨k,hk,rfl,HN,rfl⟩:=hrel
  by_cases hlt:k<l.length
  case pos =>
   have e0:=HG.out k hlt
   cases hbl:Op.bytesLess l[k].toList s.toList
   case true =>
    have HN2:=Hd (show ∀ j (hj:j<l.length),j<k+1→l[j].data.toList<s.data.toList from fun j hj hjk=>by
     by_cases hjk2:j=k
     ·subst hjk2;exact less_true hbl
     ·exact HN.out j hj (by omega))
    go_wp2_with fail
    go_roundw
    case rel=>exact ⟨k+1,by omega,by go_num,HN2,trivial⟩
    case measure=>simp [intOf];omega
   cases he:(l[k].toList==s.toList)
   case true =>
    exact absurd ((memB_one hlt he).symm.trans HM.out) (by simp)
   have HR:=Hd (show insR l s=l.take k++s::l.drop k by
    rw [insR_at l s k hk HN.out (fun _=>less_false hbl),dif_pos hlt,if_neg (same_false he)])
   have hkc:k≤c:=by omega
   have HL3:=Hd (show (l.drop k).length=l.length-k from List.length_drop ..)
   go_wp2_with (at_builtin;refine wpList_append_src rfl _ _ 55 rfl wr.heap.size 9 i0 (.string ⟨#[]⟩) 1 16 Tryz.underlying55 HI.out HZ0.out HZ1.out HZ2.out rfl (by decide) _ _ _ rfl (World.ownsRow_made wr #[] 0 (Nat.le_refl _) (Nat.zero_le _) rfl) (some ⟨b,0,none⟩) k _ ((l.take k).map .string) rfl ?c1 ?c2 (nms_one _) ?c4 ?c5 ?c6 ?_)
   case c1=>rw [List.length_map,List.length_take,Nat.min_eq_left hk,Nat.mul_one]
   case c2=>exact src_take (cells_kept HG.out ((belowBox wr _).mono hB) hb) k
   case c4=>unfold maxLen;omega
   case c5=>omega
   case c6=>simp
   intro v1 w1 hown1 hgrow1
   have HO1:=Hd hown1
   have HB1:=Hd (show Below wr.heap.size wr w1 from (belowBox wr _).grown hgrow1 (by simp) (by intro k hk;simp [Value.ownBlock] at hk;omega))
   clear hown1 hgrow1
   go_wp2_with (at_builtin;refine wpList_append_src rfl _ _ 55 rfl wr.heap.size 9 i0 (.string ⟨#[]⟩) 1 16 Tryz.underlying55 HI.out HZ0.out HZ1.out HZ2.out rfl (by decide) _ _ _ rfl (HO1.out.alloc _) (some ⟨w1.heap.size,0,none⟩) 1 1 [.string s] rfl rfl (src_new w1 [.string s] 9 1) ?c3 ?c4 ?c5 ?c6 ?_)
   case c3=>intro u hu;simp at hu;subst hu;rfl
   case c4=>unfold maxLen;omega
   case c5=>omega
   case c6=>have:=HB1.out.size;simp;omega
   intro v2 w2 hown2 hgrow2
   have HB2:=Hd (grown_below HB1.out hgrow2 (fun k hk=>(HO1.out.lt k hk).1))
   have HO2:=Hd hown2
   clear hown2 hgrow2
   go_wp2_with (at_builtin;refine wpList_append_src rfl _ _ 55 rfl wr.heap.size 9 i0 (.string ⟨#[]⟩) 1 16 Tryz.underlying55 HI.out HZ0.out HZ1.out HZ2.out rfl (by decide) _ _ _ rfl HO2.out _ _ _ ((l.drop k).map .string) rfl ?c1 ?c2 (nms_one _) ?c4 ?c5 ?c6 ?_)
   case c1=>simp
   all_goals first
    | (unfold maxLen;omega)
    | omega
    | exact HB2.out.size
    | (exact src_drop (cells_kept HG.out (HB2.out.mono hB) hb) k _)
    | (rw [← List.map_drop];exact src_drop (cells_kept HG.out (HB2.out.mono hB) hb) k _)
    | (rw [List.drop_of_length_le (by simp;omega),show l.length-k=0 by omega];exact src_none _ _)
    | skip
   intro v3 w3 hown3 hgrow3
   have HB3:=Hd (show Below wr.heap.size wr w3 from HB2.out.grown hgrow3 HB2.out.size (fun k hk=>(HO2.out.lt k hk).1))
   have HO3:=Hd hown3
   clear hown3 hgrow3
   go_wp2
   go_ret
   exact nmo_ret HO3.out (Nat.le_refl _) (by rw [HR.out];simp;omega) (by rw [HR.out];simp) HB3.out
  case neg =>
   have HR:=Hd (show insR l s=l++[s] by
    rw [insR_at l s k hk HN.out (fun h=>absurd h hlt),dif_neg hlt])
   obtain rfl:k=l.length:=by omega
   clear hlt hk
   go_wp2_with (at_builtin;refine wpList_append_src rfl _ _ 55 rfl wr.heap.size 9 i0 (.string ⟨#[]⟩) 1 16 Tryz.underlying55 HI.out HZ0.out HZ1.out HZ2.out rfl (by decide) _ _ _ rfl (World.ownsRow_made wr #[] 0 (Nat.le_refl _) (Nat.zero_le _) rfl) (some ⟨b,0,none⟩) l.length _ (l.map .string) rfl ?d1 ?d2 (nms_one _) ?d4 ?d5 ?d6 ?_)
   case d1=>simp
   case d2=>exact (HA.out.keep (Kept.of_below ((belowBox wr _).mono hB))).src
   case d4=>unfold maxLen;omega
   case d5=>omega
   case d6=>simp
   intro v1 w1 hown1 hgrow1
   have HO1:=Hd hown1
   have HB1:=Hd (show Below wr.heap.size wr w1 from (belowBox wr _).grown hgrow1 (by simp) (by intro k hk;simp [Value.ownBlock] at hk;omega))
   clear hown1 hgrow1
   go_wp2_with (at_builtin;refine wpList_append_src rfl _ _ 55 rfl wr.heap.size 9 i0 (.string ⟨#[]⟩) 1 16 Tryz.underlying55 HI.out HZ0.out HZ1.out HZ2.out rfl (by decide) _ _ _ rfl (HO1.out.alloc _) (some ⟨w1.heap.size,0,none⟩) 1 1 [.string s] rfl rfl (src_new w1 [.string s] 9 1) ?d3 ?d4 ?d5 ?d6 ?_)
   case d3=>intro u hu;simp at hu;subst hu;rfl
   case d4=>unfold maxLen;omega
   case d5=>omega
   case d6=>have:=HB1.out.size;simp;omega
   intro v2 w2 hown2 hgrow2
   have HB2:=Hd (grown_below HB1.out hgrow2 (fun k hk=>(HO1.out.lt k hk).1))
   have HO2:=Hd hown2
   clear hown2 hgrow2
   go_wp2_with (at_builtin;refine wpList_append_src rfl _ _ 55 rfl wr.heap.size 9 i0 (.string ⟨#[]⟩) 1 16 Tryz.underlying55 HI.out HZ0.out HZ1.out HZ2.out rfl (by decide) _ _ _ rfl HO2.out _ 0 _ [] rfl rfl (src_none _ _) (by simp) (by unfold maxLen;omega) (by omega) HB2.out.size ?_)
   all_goals
    intro v3 w3 hown3 hgrow3
    have HB3:=Hd (show Below wr.heap.size wr w3 from HB2.out.grown hgrow3 HB2.out.size (fun k hk=>(HO2.out.lt k hk).1))
    have HO3:=Hd hown3
    clear hown3 hgrow3
    go_wp2
    go_ret
    exact nmo_ret HO3.out (Nat.le_refl _) (by rw [HR.out];simp) (by rw [HR.out];simp) HB3.out
end Go.Proofs.YticpebgjbfanpaaGreatDoor

/- datakitref38.calls: the names that are called and are not local, in ascending order (printed by gencls39.py). -/
namespace Go.Proofs.YticpebgjbfanpaaGreatDoor
open Go.RowKit
def ndC (e:ExprD) (d:ScD):List ByteArray:=if e.op=21∧findG d.gs e.name<0 then [e.name] else []
def clF (f:ExprD→ScD→List ByteArray) (e:ExprD) (d:ScD) (k:Nat):List ByteArray:=(e.funcs.take k).flatMap fun u=>f u.body ((d.fns e.funcs).par u.params)
def clA (f:ExprD→ScD→List ByteArray) (e:ExprD) (d:ScD) (k:Nat):List ByteArray:=(List.range k).flatMap fun i=>f (e.args.getD i default) (d.wit e i)
def clE:Nat→ExprD→ScD→List ByteArray
 | 0,e,d=>ndC e d
 | m+1,e,d=>ndC e d++clF (clE m) e d e.funcs.length++clA (clE m) e d e.args.length
theorem clF_0 (f:ExprD→ScD→List ByteArray) (e:ExprD) (d:ScD):clF f e d 0=[]:=rfl
theorem clA_0 (f:ExprD→ScD→List ByteArray) (e:ExprD) (d:ScD):clA f e d 0=[]:=rfl
theorem clF_step (f:ExprD→ScD→List ByteArray) (e:ExprD) (d:ScD) {k:Nat} (h:k<e.funcs.length):clF f e d (k+1)=clF f e d k++f e.funcs[k].body ((d.fns e.funcs).par e.funcs[k].params):=by
 unfold clF
 rw [← List.take_append_getElem h,List.flatMap_append]
 simp
theorem clA_step (f:ExprD→ScD→List ByteArray) (e:ExprD) (d:ScD) {k:Nat} (h:k<e.args.length):clA f e d (k+1)=clA f e d k++f e.args[k] (d.wit e k):=by
 unfold clA
 rw [List.range_succ,List.flatMap_append]
 simp [List.getD_eq_getElem?_getD,List.getElem?_eq_getElem h]
theorem clF_len {f:ExprD→ScD→List ByteArray} {g:ExprD→Nat} (e:ExprD) (d:ScD) (h:∀ k (hk:k<e.funcs.length) d,(f e.funcs[k].body d).length≤g e.funcs[k].body):∀ k,k≤e.funcs.length→(clF f e d k).length≤((e.funcs.take k).map fun u=>g u.body).sum
 | 0,_=>by simp [clF_0]
 | k+1,hk=>by
   have h1:=clF_len e d h k (by omega)
   have h2:=h k (by omega) ((d.fns e.funcs).par e.funcs[k].params)
   rw [clF_step f e d (by omega),List.length_append,sum_step _ (show k<e.funcs.length by omega)]
   omega
theorem clA_len {f:ExprD→ScD→List ByteArray} {g:ExprD→Nat} (e:ExprD) (d:ScD) (h:∀ k (hk:k<e.args.length) d,(f e.args[k] d).length≤g e.args[k]):∀ k,k≤e.args.length→(clA f e d k).length≤((e.args.take k).map g).sum
 | 0,_=>by simp [clA_0]
 | k+1,hk=>by
   have h1:=clA_len e d h k (by omega)
   have h2:=h k (by omega) (d.wit e k)
   rw [clA_step f e d (by omega),List.length_append,sum_step _ (show k<e.args.length by omega)]
   omega
theorem ndC_len (e:ExprD) (d:ScD):(ndC e d).length≤1:=by unfold ndC;split<;>simp
theorem insAll_len (L:List ByteArray):∀ l:List ByteArray,(insAll l L).length≤l.length+L.length:=by
 induction L with
 | nil=>intro l;exact Nat.le_refl _
 | cons s r ih =>
   intro l
   have h1:=ih (insR l s)
   have h2:=insR_len l s
   show (insAll (insR l s) r).length≤l.length+(r.length+1)
   omega
theorem insR_ne (l:List ByteArray) (s:ByteArray):insR l s≠[]:=by
 cases l with
 | nil=>simp [insR]
 | cons x r =>
   unfold insR
   split
   ·simp
   ·split<;>simp
def NmsI (lo:Nat) (l:List ByteArray) (w:World) (e:Ending) (w':World):Prop:=∃ (a:Option Addr) (c:Nat),e=.returned (.slice a l.length c)∧w'.ownsRow lo 9 1 (.slice a l.length c) l.length (l.map .string)∧(l=[]→a=none∧c=0)∧Below w.heap.size w w'
def CallX (x:ExprD) (F:ScD→List ByteArray) (n K:Nat):Prop:=∀ (w:World) (B N:Nat) (xs:List Value) (d:ScD) (cs:List Value) (l:List ByteArray) (a:Option Addr) (c C lo:Nat),
 N≤1048576→C+K≤536870912→l.length+n≤65536→B≤w.heap.size→lo≤w.heap.size→w.ownsRow lo 9 1 (.slice a l.length c) l.length (l.map .string)→(l=[]→a=none∧c=0)→ScD.At w 0 B C d cs→ExprD.At w B N x xs →
 Calls Tryz.prog 38 #[.agg xs.toArray,.agg cs.toArray,.slice a l.length c] w (NmsI lo (insAll l (F d)) w)
structure BoxF (w u:World) (xs cs:List Value):Prop where
 row:CellsAt u w.heap.size 0 xs
 sc:CellsAt u (w.heap.size+1) 0 cs
 low:Below w.heap.size w u
 size:w.heap.size+2≤u.heap.size
theorem BoxF.start (w:World) (xs cs:List Value) (t1 t2:TypeId):BoxF w ((w.alloc (.cells xs.toArray t1)).alloc (.cells cs.toArray t2)) xs cs:=by
 have s1:(w.alloc (.cells xs.toArray t1)).heap.size=w.heap.size+1:=World.size_alloc _ _
 refine ⟨(box_at w xs t1).then (belowBox _ _) (by rw [s1];omega),?_,belowThen (belowBox w _) (belowBox _ _),by rw [World.size_alloc,s1];omega⟩
 have h:=box_at (w.alloc (.cells xs.toArray t1)) cs t2
 rw [s1] at h
 exact h
theorem BoxF.below {w u u':World} {xs cs:List Value} (h:BoxF w u xs cs) (hb:Below u.heap.size u u'):BoxF w u' xs cs :=
 ⟨h.row.then hb (by have:=h.size;omega),h.sc.then hb (by have:=h.size;omega),belowThen h.low hb,Nat.le_trans h.size hb.size⟩
theorem drewB (w:World):Below w.heap.size w w.drew:=⟨rfl,rfl,rfl,Nat.le_refl _,fun _ _=>rfl⟩
set_option maxRecDepth 100000 in
set_option maxHeartbeats 6400000 in
theorem calls_step (f:ExprD→ScD→List ByteArray) (g:ExprD→Nat) (K:Nat) (x:ExprD) (hA:∀ k (h:k<x.args.length),CallX x.args[k] (f x.args[k]) (g x.args[k]) K) (hF:∀ k (h:k<x.funcs.length),CallX x.funcs[k].body (f x.funcs[k].body) (g x.funcs[k].body) K)
 (hlA:∀ k (h:k<x.args.length) d,(f x.args[k] d).length≤g x.args[k]) (hlF:∀ k (h:k<x.funcs.length) d,(f x.funcs[k].body d).length≤g x.funcs[k].body) :
 CallX x (fun d=>ndC x d++clF f x d x.funcs.length++clA f x d x.args.length) (1+(x.funcs.map fun u=>g u.body).sum+(x.args.map g).sum) (K+2097152):=by
 intro w B N xs d cs l a c C lo hN hC hn hB hlo hown hnil hd hx
 obtain ⟨hc1,hc2,_⟩:=own_nms hown (Nat.le_refl _)
 have IA:=Hd hA
 have IF:=Hd hF
 have HLA:=Hd hlA
 have HLF:=Hd hlF
 have HNN:=Hd hn
 have HL0:=Hd hown
 have HD:=Hd hd
 have HX:=Hd hx
 have hsz:=Hd (show (Tryz.prog.info? 96).map (·.size)=some cs.length by rw [hd.len];kernel_rfl)
 have hlx:=Hd (show (Tryz.prog.info? 34).map (·.size)=some xs.length by rw [hx.len];exact sizeE)
 obtain ⟨aa,fa,ac,fc,vs,hh⟩:=hx.has
 have c0:=hh.op
 have c1:=hh.name
 have c15:=hh.args
 have c16:=hh.funcs
 have hal:x.args.length≤N:=hh.own.2.2.1
 have hfl:x.funcs.length≤N:=hh.own.2.2.2
 have HAr:=Hd hh.atArgs
 have HU:=Hd hh.atFuncs
 obtain ⟨va,la,ga,vc,lc,gc,hcs,hv,hls,hg,k1,k2,k3⟩:=hd
 have HV:=Hd hv
 have z0:cs[0]?=some (.slice va d.vs.length vc):=by rw [hcs];rfl
 have k1':d.vs.length≤536870912:=by omega
 have B0:=Hd (BoxF.start w xs cs 34 96)
 have e0:=B0.out.row.get0 c0
 have e1:=B0.out.row.get0 c1
 have e2:=B0.out.sc.get0 z0
 have HNIL:=Hd hnil
 have HLO:=Hd (show ∀ u,Below w.heap.size w u→u.ownsRow lo 9 1 (.slice a l.length c) l.length (l.map .string) from fun u hu=>own_then HL0.out hu)
 clear hh hx hA hF hlA hlF hown hnil hv hls hg k1 k2 k3 hcs hn
 obtain ⟨RR,hRR⟩:∃ RR:List ByteArray→List ByteArray,RR=fun L=>insAll l (ndC x d++L):=⟨_,rfl⟩
 obtain ⟨R,hR⟩:∃ R,R=RR (clF f x d x.funcs.length++clA f x d x.args.length):=⟨_,rfl⟩
 have hgoal:insAll l ((fun d=>ndC x d++clF f x d x.funcs.length++clA f x d x.args.length) d)=R:=by rw [hR,hRR];simp [List.append_assoc]
 rw [hgoal]
 have HRR:=Hd hRR
 have HR:=Hd hR
 obtain ⟨T,hT⟩:∃ T,l.length=T:=⟨_,rfl⟩
 have HTN:=Hd (show T+(1+(x.funcs.map fun u=>g u.body).sum+(x.args.map g).sum)≤65536 by have:=HNN.out;omega)
 have hT1:l.length≤T+1:=by omega
 have hT2:l.length≤65536:=by have:=HNN.out;omega
 have hT3:(insR l x.name).length≤T+1:=by have:=insR_len l x.name;omega
 have HT3:=Hd hT3
 clear hgoal hRR hR HNN hT hT3
 have hcase:(x.op=21∧findG d.gs x.name<0)∨(x.op=21∧¬ findG d.gs x.name<0)∨(x.op==21)=false:=by
  by_cases h4:x.op=21
  ·by_cases hm:findG d.gs x.name<0
   ·exact .inl ⟨h4,hm⟩
   ·exact .inr (.inl ⟨h4,hm⟩)
  ·exact .inr (.inr (by simpa using h4))
 rcases hcase with ⟨h4,hm⟩ | ⟨h4,hm⟩ | h4
 case' inl =>
  have HND:=Hd (show ∀ L,insAll (insR l x.name) L=RR L from fun L=>by rw [HRR.out];unfold ndC;rw [if_pos ⟨h4,hm⟩];rfl)
  rw [h4] at c0 e0
  clear h4
  obtain ⟨n,hnn⟩:∃ n,findG d.gs x.name=n:=⟨_,rfl⟩
  have HF:=Hd hnn
  rw [hnn] at hm
  clear hnn
  go_enter Tryz.func38,Tryz.ntmps38
  go_wp2_with ((with_reducible show wpList _ _ _ (⟨some 13,_,_,_,_,_⟩::_) _ _);refine wpList_load_mid_e rfl 96 _ rfl (w.heap.size+1) 0 rfl cs _ B0.out.sc.range Tryz.underlying96 rfl hsz.out ?_)
  refine (local_r d x.name cs _ 0 B C (by omega) (Nat.le_trans hB B0.out.low.size) (HD.out.keep (Kept.of_below (B0.out.low.mono hB)))).mono ?_
  rintro e w1 ⟨rfl,hb1⟩
  have BA:=Hd (B0.out.below hb1)
  have f1:=BA.out.row.get0 c1
  rw [HF.out]
  clear hb1 e0 e1 e2
  go_wp2_with fail
  refine (insert_o l x.name a c _ lo (by omega) (Nat.le_trans hlo BA.out.low.size) (HLO.out _ BA.out.low) HNIL.out).mono ?_
  rintro e w2 ⟨a1,c1,rfl,hn2,hb2⟩
  obtain ⟨hq1,hq2,_⟩:=own_nms hn2 (Nat.le_refl _)
  have B2:=Hd (BA.out.below hb2)
  have HN2:=Hd hn2
  have HI2:=Hd (show insR l x.name=[]→a1=none∧c1=0 from fun h=>absurd h (insR_ne l x.name))
  obtain ⟨l1,hl1⟩:∃ l1,l1=insR l x.name:=⟨_,rfl⟩
  have hT4:=HT3.out
  rw [← hl1] at HND hq1 HN2 HI2 hT4 ⊢
  clear hn2 hb2 f1 hl1 hc1 hc2 hT1 hT2 c0 BA HF hm
 case' inr.inl =>
  have HND:=Hd (show ∀ L,insAll l L=RR L from fun L=>by rw [HRR.out];unfold ndC;rw [if_neg (fun g=>hm g.2)];rfl)
  rw [h4] at c0 e0
  clear h4
  obtain ⟨n,hnn⟩:∃ n,findG d.gs x.name=n:=⟨_,rfl⟩
  have HF:=Hd hnn
  rw [hnn] at hm
  clear hnn
  go_enter Tryz.func38,Tryz.ntmps38
  go_wp2_with ((with_reducible show wpList _ _ _ (⟨some 13,_,_,_,_,_⟩::_) _ _);refine wpList_load_mid_e rfl 96 _ rfl (w.heap.size+1) 0 rfl cs _ B0.out.sc.range Tryz.underlying96 rfl hsz.out ?_)
  refine (local_r d x.name cs _ 0 B C (by omega) (Nat.le_trans hB B0.out.low.size) (HD.out.keep (Kept.of_below (B0.out.low.mono hB)))).mono ?_
  rintro e w2 ⟨rfl,hb1⟩
  have B2:=Hd (B0.out.below hb1)
  rw [HF.out]
  have hz:(decide (n<0))=false:=by simpa using hm
  clear hm
  have HN2:=Hd (HLO.out _ B2.out.low)
  clear hb1 e0 e1 e2 HF
 case' inr.inr =>
  have HND:=Hd (show ∀ L,insAll l L=RR L from fun L=>by rw [HRR.out];unfold ndC;rw [if_neg (by intro h;rw [h.1] at h4;cases h4)];rfl)
  go_enter Tryz.func38,Tryz.ntmps38
  go_wp2_with fail
  obtain ⟨w2,hw2⟩:∃ w2,w2=((w.alloc (.cells xs.toArray 34)).alloc (.cells cs.toArray 96)):=⟨_,rfl⟩
  have B2:=B0
  have HN2:=Hd (HLO.out _ B0.out.low)
  rw [← hw2] at B2 HN2 ⊢
  clear hw2 e0 e1 e2
 case' inr.inl | inr.inr =>
  have HI2:=HNIL
  obtain ⟨l1,rfl⟩:∃ l1,l1=l:=⟨l,rfl⟩
  obtain ⟨a1,rfl⟩:∃ a1,a1=a:=⟨a,rfl⟩
  obtain ⟨c1,rfl⟩:∃ c1,c1=c:=⟨c,rfl⟩
  have hq1:=hc1
  have hq2:=hc2
  have hT4:=hT1
  clear hc1 hc2 hT1 hT2 c0
 all_goals
  clear B0 HLO HT3 HNIL HL0 HRR
  have d16:=B2.out.row.get0 c16
  go_wp2_with fail
  go_simp
  go_loopw [2,7] (fun sv i wr=>∃ (ai:Option Addr) (ci:Nat) (li:List ByteArray) (k:Nat),k≤x.funcs.length∧sv=.slice ai li.length ci∧i=.int .i64 k∧li.length≤ci∧ci≤maxLen∧Hid (∀ L,insAll li L=RR (clF f x d k++L))∧Hid (li.length≤T+1+((x.funcs.take k).map fun u=>g u.body).sum) ∧
   Hid (BoxF w wr xs cs)∧Hid (wr.ownsRow lo 9 1 (.slice ai li.length ci) li.length (li.map .string))∧Hid (li=[]→ai=none∧ci=0)) (fun _ i _=>x.funcs.length-(intOf i).toNat)
  case atStart=>exact ⟨a1,c1,l1,0,by omega,rfl,rfl,hq1,hq2,HND,Hd (by simpa using hT4),B2,HN2,HI2⟩
  case round =>
   obtain ⟨w1,rfl⟩:∃ w1,w1=wr:=⟨wr,rfl⟩
   clear HND B2 HN2 HI2 hT4 d16 hq1 hq2
   obtain ⟨ai,ci,li,k,hk,rfl,rfl,hq1,hq2,HQ,HLI,B1,HN1,HI1⟩:=hrel
   have d16:=B1.out.row.get0 c16
   by_cases hlt:k<x.funcs.length
   case pos =>
    obtain ⟨b,p,rfl,hb,hget⟩:=HU.out.get (by intro h;simp [h] at hlt)
    obtain ⟨fs,g1,g2⟩:=hget k hlt
    obtain ⟨es,g3,g4⟩:=FuncD.At.bodyAt g1 g2
    have hpl:x.funcs[k].params.length≤N:=by obtain ⟨_,_,_,gh⟩:=g2.has;exact gh.hp
    have HFR:=Hd (show ∀ u,Below w.heap.size w u→CellsAt u b (p+k * 19) fs from fun u hu=>g1.below (hu.mono hB) hb)
    have HER:=Hd (show ∀ u,Below w.heap.size w u→CellsAt u b (p+k * 19+2) es from fun u hu=>g3.below (hu.mono hB) hb)
    have hlf:=Hd (show (Tryz.prog.info? 82).map (·.size)=some fs.length by rw [g2.len];exact sizeFN)
    have hle:=Hd (show (Tryz.prog.info? 34).map (·.size)=some es.length by rw [g4.len];exact sizeE)
    have G2:=Hd g2
    have G4:=Hd g4
    have HST:=Hd (sum_step (fun u:FuncD=>g u.body) hlt)
    have HSL:=Hd (sum_le (fun u:FuncD=>g u.body) x.funcs (k+1))
    have HGN:=Hd (show li.length+g x.funcs[k].body≤65536 by have h1:=HTN.out;have h2:=HLI.out;have h3:=HST.out;have h4:=HSL.out;omega)
    clear g1 g2 g3 g4 hget
    go_wp2_with fail
    refine wp_region_held_drew (S:=fun u=>BoxF w u xs cs∧Below w1.heap.size w1 u) (by kernel_rfl) ⟨B1.out.below (drewB w1),drewB w1⟩ (fun hHeld=>?_)
    refine' tk 0 (.pointer (some ⟨w.heap.size,16,none⟩)) rfl rfl (.inl ⟨by rfl,fun u hu=>(by go_simp)⟩) hHeld ?_
    simp only [sq1,sq0]
    refine' tk 1 (.slice (some ⟨b,p,none⟩) x.funcs.length fc) rfl rfl (.inl ⟨by rfl,fun u hu=>(by have hc:=hu.1.row.get0 c16;go_simp)⟩) hHeld ?_
    simp only [sq1,sq0]
    refine' tk 2 (.int .i64 k) rfl rfl (.inl ⟨by rfl,fun u hu=>(by go_simp)⟩) hHeld ?_
    simp only [sq1,sq0]
    refine' tk 3 (.pointer (some ⟨b,p+k * 19,none⟩)) rfl rfl (.inl ⟨by rfl,fun u hu=>(by go_simp)⟩) hHeld ?_
    simp only [sq1,sq0]
    refine' tk 4 (.pointer (some ⟨b,p+k * 19+2,none⟩)) rfl rfl (.inl ⟨by rfl,fun u hu=>(by go_simp)⟩) hHeld ?_
    simp only [sq1,sq0]
    refine' tk 5 _ rfl rfl (yieldsIf_load_mid (by kernel_rfl) 34 _ rfl (b) (p+k * 19+2) rfl es _ (fun u hu=>(HER.out _ hu.1.low).range) Tryz.underlying34 rfl hle.out) hHeld ?_
    simp only [sq1,sq0]
    refine' tk 6 _ rfl rfl (yieldsIf_load_mid (by kernel_rfl) 96 _ rfl (w.heap.size+1) (0) rfl cs _ (fun u hu=>hu.1.sc.range) Tryz.underlying96 rfl hsz.out) hHeld ?_
    simp only [sq1,sq0]
    refine' tk 7 (.pointer (some ⟨w.heap.size,16,none⟩)) rfl rfl (.inl ⟨by rfl,fun u hu=>(by go_simp)⟩) hHeld ?_
    simp only [sq1,sq0]
    refine' tk 8 (.slice (some ⟨b,p,none⟩) x.funcs.length fc) rfl rfl (.inl ⟨by rfl,fun u hu=>(by have hc:=hu.1.row.get0 c16;go_simp)⟩) hHeld ?_
    simp only [sq1,sq0]
    refine' tk 10 (.pointer (some ⟨w.heap.size,16,none⟩)) rfl rfl (.inl ⟨by rfl,fun u hu=>(by go_simp)⟩) hHeld ?_
    simp only [sq1,sq0]
    refine' tk 11 (.slice (some ⟨b,p,none⟩) x.funcs.length fc) rfl rfl (.inl ⟨by rfl,fun u hu=>(by have hc:=hu.1.row.get0 c16;go_simp)⟩) hHeld ?_
    simp only [sq1,sq0]
    refine' tk 12 (.int .i64 k) rfl rfl (.inl ⟨by rfl,fun u hu=>(by go_simp)⟩) hHeld ?_
    simp only [sq1,sq0]
    refine' tk 13 (.pointer (some ⟨b,p+k * 19,none⟩)) rfl rfl (.inl ⟨by rfl,fun u hu=>(by go_simp)⟩) hHeld ?_
    simp only [sq1,sq0]
    refine' tk 14 _ rfl rfl (yieldsIf_load_mid (by kernel_rfl) 82 _ rfl (b) (p+k * 19) rfl fs _ (fun u hu=>(HFR.out _ hu.1.low).range) Tryz.underlying82 rfl hlf.out) hHeld ?_
    simp only [sq1,sq0]
    refine' tk 16 (.slice ai li.length ci) rfl rfl (.inl ⟨by rfl,fun u hu=>(by go_simp)⟩) hHeld ?_
    simp only [sq1,sq0]
    refine rd1 9 rfl (fun K hK=>?_)
    go_simp
    refine (functions_r x.funcs (some ⟨b,p,none⟩) fc d cs _ 0 B C N (by omega) (by omega) hfl (Nat.le_trans hB hHeld.1.low.size) (Nat.zero_le _) (HD.out.keep (Kept.of_below (hHeld.1.low.mono hB))) (FuncsAt.below (hHeld.1.low.mono hB) _ HU.out)).mono ?_
    rintro e u0 ⟨cs1,rfl,hs1,hb0⟩
    have S1:=Hd hs1
    refine hK.out _ _ ⟨hHeld.1.below hb0,belowThen hHeld.2 hb0⟩ (fun hHeld0=>?_)
    clear hK K hHeld hb0 hs1
    refine rd1 15 rfl (fun K hK=>?_)
    go_simp
    refine (params_r x.funcs[k] fs (d.fns x.funcs) cs1 _ 0 u0.heap.size (C+x.funcs.length) N (by omega) (by omega) (Nat.le_refl _) (Nat.zero_le _) S1.out (FuncD.At.mono (Nat.le_trans hB hHeld0.1.low.size) _ (G2.out.below (hHeld0.1.low.mono hB)))).mono ?_
    rintro e u1 ⟨d2,cs2,hv2,rfl,hs2,hb1⟩
    have HV2:=Hd hv2
    have S2:=Hd hs2
    refine hK.out _ _ ⟨hHeld0.1.below hb1,belowThen hHeld0.2 hb1⟩ (fun hHeld1=>?_)
    clear hK K hHeld0 hb1 hs2 hv2 S1
    refine rd1 17 rfl (fun K hK=>?_)
    go_simp
    refine (IF.out k hlt _ u1.heap.size N es d2 cs2 li ai ci (C+x.funcs.length+x.funcs[k].params.length) lo hN (by omega) HGN.out (Nat.le_refl _) (Nat.le_trans hlo hHeld1.1.low.size) (own_then HN1.out hHeld1.2) HI1.out S2.out ((G4.out.below (hHeld1.1.low.mono hB)).mono (Nat.le_trans hB hHeld1.1.low.size))).mono ?_
    rintro e u2 ⟨a3,c3,rfl,hn3,hi3,hb2⟩
    obtain ⟨h31,h32,_⟩:=own_nms hn3 (Nat.le_refl _)
    have HN3:=Hd hn3
    have HI3:=Hd hi3
    refine hK.out _ _ ⟨hHeld1.1.below hb2,belowThen hHeld1.2 hb2⟩ (fun hHeld2=>?_)
    clear hK K hHeld1 hb2 hn3 hi3
    refine rd1 18 rfl (fun K hK=>?_)
    go_simp
    refine hK.out _ _ hHeld2 (fun hHeldx=>?_)
    clear hK K hHeldx
    refine wpAnyH_done (by kernel_rfl) ?_ _
    have B3:=Hd hHeld2.1
    have HQ3:=Hd (show ∀ L,insAll (insAll li (f x.funcs[k].body d2)) L=RR (clF f x d (k+1)++L) from fun L=>by
     rw [clF_step f x d hlt,HV2.out,← insAll_append,HQ.out,List.append_assoc])
    have HL3:=Hd (show (insAll li (f x.funcs[k].body d2)).length≤T+1+((x.funcs.take (k+1)).map fun u=>g u.body).sum by
     have h1:=insAll_len (f x.funcs[k].body d2) li
     have h2:=HLF.out k hlt d2
     have h3:=HLI.out
     have h4:=HST.out
     omega)
    clear hHeld2 d16
    obtain ⟨l3,hl3⟩:∃ l3,l3=insAll li (f x.funcs[k].body d2):=⟨_,rfl⟩
    rw [← hl3] at HN3 HI3 h31 HQ3 HL3 ⊢
    clear hl3
    go_wp2_with fail
    go_roundw
    case rel=>exact ⟨a3,c3,l3,k+1,by omega,rfl,by go_num,h31,h32,HQ3,HL3,B3,HN3,HI3⟩
    case measure=>simp [intOf];omega
   case neg =>
    obtain rfl:k=x.funcs.length:=by omega
    have d15:=B1.out.row.get0 c15
    go_wp2_with fail
    go_simp
    go_loopw [2,8] (fun sv i wr=>∃ (ai:Option Addr) (ci:Nat) (li:List ByteArray) (k:Nat),k≤x.args.length∧sv=.slice ai li.length ci∧i=.int .i64 k∧li.length≤ci∧ci≤maxLen∧Hid (∀ L,insAll li L=RR (clF f x d x.funcs.length++(clA f x d k++L)))∧Hid (li.length≤T+1+(x.funcs.map fun u=>g u.body).sum+((x.args.take k).map g).sum) ∧
     Hid (BoxF w wr xs cs)∧Hid (wr.ownsRow lo 9 1 (.slice ai li.length ci) li.length (li.map .string))∧Hid (li=[]→ai=none∧ci=0)) (fun _ i _=>x.args.length-(intOf i).toNat)
    case atStart=>exact ⟨ai,ci,li,0,by omega,rfl,rfl,hq1,hq2,Hd (fun L=>by rw [HQ.out,clA_0];rfl),Hd (by have:=HLI.out;rw [List.take_length] at this;simpa using this),B1,HN1,HI1⟩
    case round =>
     obtain ⟨w1,rfl⟩:∃ w1,w1=wr:=⟨wr,rfl⟩
     clear HQ HLI B1 HN1 HI1 d15 d16 hq1 hq2
     obtain ⟨ai,ci,li,k,hk,rfl,rfl,hq1,hq2,HQ,HLI,B1,HN1,HI1⟩:=hrel
     have d15:=B1.out.row.get0 c15
     by_cases hlt:k<x.args.length
     case pos =>
      obtain ⟨b,p,rfl,hb,hget⟩:=HAr.out.get (by intro h;simp [h] at hlt)
      obtain ⟨es,g1,g2⟩:=hget k hlt
      have HER:=Hd (show ∀ u,Below w.heap.size w u→CellsAt u b (p+k * 17) es from fun u hu=>g1.below (hu.mono hB) hb)
      have hle:=Hd (show (Tryz.prog.info? 34).map (·.size)=some es.length by rw [g2.len];exact sizeE)
      have G4:=Hd g2
      have HST:=Hd (sum_step g hlt)
      have HSL:=Hd (sum_le g x.args (k+1))
      have HGN:=Hd (show li.length+g x.args[k]≤65536 by have h1:=HTN.out;have h2:=HLI.out;have h3:=HST.out;have h4:=HSL.out;omega)
      clear g1 g2 hget
      go_wp2_with fail
      refine wp_region_held_drew (S:=fun u=>BoxF w u xs cs∧Below w1.heap.size w1 u) (by kernel_rfl) ⟨B1.out.below (drewB w1),drewB w1⟩ (fun hHeld=>?_)
      refine' tk 0 (.pointer (some ⟨w.heap.size,15,none⟩)) rfl rfl (.inl ⟨by rfl,fun u hu=>(by go_simp)⟩) hHeld ?_
      simp only [sq1,sq0]
      refine' tk 1 (.slice (some ⟨b,p,none⟩) x.args.length ac) rfl rfl (.inl ⟨by rfl,fun u hu=>(by have hc:=hu.1.row.get0 c15;go_simp)⟩) hHeld ?_
      simp only [sq1,sq0]
      refine' tk 2 (.int .i64 k) rfl rfl (.inl ⟨by rfl,fun u hu=>(by go_simp)⟩) hHeld ?_
      simp only [sq1,sq0]
      refine' tk 3 (.pointer (some ⟨b,p+k * 17,none⟩)) rfl rfl (.inl ⟨by rfl,fun u hu=>(by go_simp)⟩) hHeld ?_
      simp only [sq1,sq0]
      refine' tk 4 _ rfl rfl (yieldsIf_load_mid (by kernel_rfl) 34 _ rfl (b) (p+k * 17) rfl es _ (fun u hu=>(HER.out _ hu.1.low).range) Tryz.underlying34 rfl hle.out) hHeld ?_
      simp only [sq1,sq0]
      refine' tk 5 _ rfl rfl (yieldsIf_load_mid (by kernel_rfl) 34 _ rfl (w.heap.size) (0) rfl xs _ (fun u hu=>hu.1.row.range) Tryz.underlying34 rfl hlx.out) hHeld ?_
      simp only [sq1,sq0]
      refine' tk 6 (.int .i64 k) rfl rfl (.inl ⟨by rfl,fun u hu=>(by go_simp)⟩) hHeld ?_
      simp only [sq1,sq0]
      refine' tk 7 _ rfl rfl (yieldsIf_load_mid (by kernel_rfl) 96 _ rfl (w.heap.size+1) (0) rfl cs _ (fun u hu=>hu.1.sc.range) Tryz.underlying96 rfl hsz.out) hHeld ?_
      simp only [sq1,sq0]
      refine' tk 9 (.slice ai li.length ci) rfl rfl (.inl ⟨by rfl,fun u hu=>(by go_simp)⟩) hHeld ?_
      simp only [sq1,sq0]
      refine rd1 8 rfl (fun K hK=>?_)
      go_simp
      refine (within_r x xs k d cs _ 0 B C N (by omega) (by omega) (by omega) (Nat.le_trans hB hHeld.1.low.size) (Nat.zero_le _) (HD.out.keep (Kept.of_below (hHeld.1.low.mono hB))) (HX.out.below (hHeld.1.low.mono hB))).mono ?_
      rintro e u1 ⟨d2,cs2,hv2,rfl,hs2,hb1⟩
      have HV2:=Hd hv2
      have S2:=Hd hs2
      refine hK.out _ _ ⟨hHeld.1.below hb1,belowThen hHeld.2 hb1⟩ (fun hHeld1=>?_)
      clear hK K hHeld hb1 hs2 hv2
      refine rd1 10 rfl (fun K hK=>?_)
      go_simp
      refine (IA.out k hlt _ u1.heap.size N es d2 cs2 li ai ci (C+N+1) lo hN (by omega) HGN.out (Nat.le_refl _) (Nat.le_trans hlo hHeld1.1.low.size) (own_then HN1.out hHeld1.2) HI1.out S2.out ((G4.out.below (hHeld1.1.low.mono hB)).mono (Nat.le_trans hB hHeld1.1.low.size))).mono ?_
      rintro e u2 ⟨a3,c3,rfl,hn3,hi3,hb2⟩
      obtain ⟨h31,h32,_⟩:=own_nms hn3 (Nat.le_refl _)
      have HN3:=Hd hn3
      have HI3:=Hd hi3
      refine hK.out _ _ ⟨hHeld1.1.below hb2,belowThen hHeld1.2 hb2⟩ (fun hHeld2=>?_)
      clear hK K hHeld1 hb2 hn3 hi3
      refine rd1 11 rfl (fun K hK=>?_)
      go_simp
      refine hK.out _ _ hHeld2 (fun hHeldx=>?_)
      clear hK K hHeldx
      refine wpAnyH_done (by kernel_rfl) ?_ _
      have B3:=Hd hHeld2.1
      have HQ3:=Hd (show ∀ L,insAll (insAll li (f x.args[k] d2)) L=RR (clF f x d x.funcs.length++(clA f x d (k+1)++L)) from fun L=>by
       rw [clA_step f x d hlt,HV2.out,← insAll_append,HQ.out,List.append_assoc])
      have HL3:=Hd (show (insAll li (f x.args[k] d2)).length≤T+1+(x.funcs.map fun u=>g u.body).sum+((x.args.take (k+1)).map g).sum by
       have h1:=insAll_len (f x.args[k] d2) li
       have h2:=HLA.out k hlt d2
       have h3:=HLI.out
       have h4:=HST.out
       omega)
      clear hHeld2 d15
      obtain ⟨l3,hl3⟩:∃ l3,l3=insAll li (f x.args[k] d2):=⟨_,rfl⟩
      rw [← hl3] at HN3 HI3 h31 HQ3 HL3 ⊢
      clear hl3
      go_wp2_with fail
      go_roundw
      case rel=>exact ⟨a3,c3,l3,k+1,by omega,rfl,by go_num,h31,h32,HQ3,HL3,B3,HN3,HI3⟩
      case measure=>simp [intOf];omega
     case neg =>
      obtain rfl:k=x.args.length:=by omega
      have HE:=Hd (show li=R by
       have h:=HQ.out []
       rw [insAll_nil,List.append_nil] at h
       rw [h,HR.out])
      go_wp2_with fail
      go_ret
      rw [← HE.out]
      exact ⟨ai,ci,rfl,HN1.out,HI1.out,B1.out.low⟩
theorem clE_len (m:Nat):∀ (x:ExprD) (d:ScD),(clE m x d).length≤ndE m x:=by
 induction m with
 | zero=>intro x d;exact ndC_len x d
 | succ m ih =>
   intro x d
   show (ndC x d++clF (clE m) x d x.funcs.length++clA (clE m) x d x.args.length).length≤_
   have h1:=ndC_len x d
   have h2:=clF_len (g:=ndE m) x d (fun k hk d=>ih _ d) x.funcs.length (Nat.le_refl _)
   have h3:=clA_len (g:=ndE m) x d (fun k hk d=>ih _ d) x.args.length (Nat.le_refl _)
   rw [List.take_length] at h2 h3
   rw [List.length_append,List.length_append]
   show _≤1+(x.funcs.map fun f=>ndE m f.body).sum+(x.args.map (ndE m)).sum
   omega
theorem calls_all (m:Nat):∀ x,dpE m x→CallX x (clE m x) (ndE m x) ((m+1) * 2097152):=by
 induction m with
 | zero =>
   intro x h
   obtain ⟨ha,hf⟩:=h
   have h:=calls_step (fun _ _=>[]) (fun _=>0) 0 x (fun k h=>by rw [ha] at h;simp at h) (fun k h=>by rw [hf] at h;simp at h) (fun k h=>by rw [ha] at h;simp at h) (fun k h=>by rw [hf] at h;simp at h)
   have e:(fun d=>ndC x d++clF (fun _ _=>[]) x d x.funcs.length++clA (fun _ _=>[]) x d x.args.length)=clE 0 x:=by
    funext d
    rw [ha,hf]
    show ndC x d++clF _ x d 0++clA _ x d 0=ndC x d
    rw [clF_0,clA_0]
    simp
   rw [e,ha,hf] at h
   simpa [ndE] using h
 | succ m ih =>
   intro x h
   have h1:=calls_step (clE m) (ndE m) ((m+1) * 2097152) x (fun k hk=>ih _ (h.1 _ (List.getElem_mem hk))) (fun k hk=>ih _ (h.2 _ (List.getElem_mem hk))) (fun k hk d=>clE_len m _ d) (fun k hk d=>clE_len m _ d)
   have e:(m+1) * 2097152+2097152=(m+1+1) * 2097152:=by omega
   rw [e] at h1
   exact h1
end Go.Proofs.YticpebgjbfanpaaGreatDoor
