/- Valid decimals of the reference (datakitref02.Valid): what it means that it says yes. -/
import Derived.Test.YtagkjofpncpcpaaGreatDoorProg
import Derived.Test.YtagkjofpncpcpaaGreatDoorGA
import Derived.Test.YtagkjofpncpcpaaGreatDoorGB
namespace Go.Proofs.YtagkjofpncpcpaaGreatDoor
open Go.RowKit
def byteI (s:ByteArray) (n:Nat):Int:=if h:n<s.size then s[n].toNat else -1
theorem byteI_eq {s:ByteArray} {n:Nat} (h:n<s.size):(s[n].toNat:Int)=byteI s n:=by simp [byteI,h]
def DigS (s:ByteArray):Prop:=∀ i,i<s.size→48≤byteI s i∧byteI s i≤57
def VDec (d:DecD):Prop :=
 (d.digits.size=0∧d.neg=false∧d.exp=0) ∨
 (0<d.digits.size∧d.digits.size≤120∧DigS d.digits∧byteI d.digits 0≠48∧byteI d.digits (d.digits.size-1)≠48∧-400≤d.exp∧d.exp≤400)
def DigR (s:ByteArray) (w:World) (e:Ending) (w':World):Prop:=∃ b,e=.returned (.bool b)∧(b=true→DigS s)∧w=w'
def ZerR (s:ByteArray) (w:World) (e:Ending) (w':World):Prop:=∃ k:Int,e=.returned (.int .i64 k)∧(k=0→s.size=0∨byteI s (s.size-1)≠48)∧w=w'
def Vld1R (s:ByteArray) (w:World) (e:Ending) (w':World):Prop:=∃ b,e=.returned (.bool b)∧(b=true→DigS s∧(s.size=0∨byteI s 0≠48))∧w=w'
theorem digits_ex (s:ByteArray) (w:World) (hs:s.size≤maxLen):Calls Tryz.prog 271 #[.string s] w (DigR s w):=by
 unfold maxLen at hs
 go_enter Tryz.func271,Tryz.ntmps271
 go_wp2_with fail
 go_loop [3] (fun i=>∃ k:Nat,k≤s.size∧i=.int .i64 k∧∀ j,j<k→48≤byteI s j∧byteI s j≤57) (fun i=>s.size-(intOf i).toNat)
 case atStart=>exact ⟨0,by omega,rfl,by omega⟩
 case round =>
  obtain ⟨k,hk,rfl,hall⟩:=hrel
  have HA:=Hd hall
  clear hall
  by_cases hlt:k<s.size
  ·have hb:=byteI_eq hlt
   by_cases h1:48≤byteI s k∧byteI s k≤57
   ·have H1:=Hd h1
    obtain ⟨h1,h2⟩:=h1
    have h3:¬ byteI s k<48:=by omega
    have h4:¬ 57<byteI s k:=by omega
    go_wp2_with fail
    go_round
    case rel=>exact ⟨k+1,by omega,by go_num,fun j hj=>by
     by_cases e:j=k
     ·subst e;exact H1.out
     ·exact HA.out j (by omega)⟩
    case measure=>simp [intOf];omega
   ·have h2:byteI s k<48∨57<byteI s k:=by omega
    clear h1
    rcases h2 with h2 | h2
    all_goals
     go_wp2_with fail
     all_goals
      go_ret
      exact ⟨_,rfl,fun h=>(by cases h),rfl⟩
  ·have HD:=Hd (show DigS s from fun i hi=>HA.out i (by omega))
   go_wp2_with fail
   go_ret
   exact ⟨_,rfl,fun _=>HD.out,rfl⟩
theorem zeros_ex (s:ByteArray) (w:World) (hs:s.size≤maxLen):Calls Tryz.prog 223 #[.string s] w (ZerR s w):=by
 unfold maxLen at hs
 go_enter Tryz.func223,Tryz.ntmps223
 go_wp2_with fail
 go_loop [3] (fun i=>∃ k:Nat,k≤s.size∧i=.int .i64 k) (fun i=>s.size-(intOf i).toNat)
 case atStart=>exact ⟨0,by omega,rfl⟩
 case round =>
  obtain ⟨k,hk,rfl⟩:=hrel
  by_cases hlt:k<s.size
  ·have hi0:(0:Int)≤(s.size:Int)-1-(k:Int):=by omega
   have hi1:(s.size:Int)-1-(k:Int)<(s.size:Int):=by omega
   have hlt2:s.size-1-k<s.size:=by omega
   have htn:((s.size:Int)-1-(k:Int)).toNat=s.size-1-k:=by omega
   have hb:=byteI_eq hlt2
   by_cases h48:byteI s (s.size-1-k)=48
   ·go_wp2_with fail
    all_goals first
     | (go_round
        case rel=>exact ⟨k+1,by omega,by go_num⟩
        case measure=>simp [intOf];omega)
     | (go_ret;exfalso;simp_all;done)
   ·have q1:(byteI s (s.size-1-k)==48)=false:=by simp [h48]
    have q2:(byteI s (s.size-1-k) != 48)=true:=by simp [h48]
    have H48:=Hd h48
    go_wp2_with fail
    all_goals
     go_ret
     refine ⟨_,rfl,fun h=>.inr ?_,rfl⟩
     have hk0:k=0:=by omega
     subst hk0
     exact H48.out
  ·have hke:k=s.size:=by omega
   go_wp2_with fail
   go_ret
   exact ⟨_,rfl,fun h=>.inl (by omega),rfl⟩
theorem valid01_ex (s:ByteArray) (w:World) (hs:s.size≤maxLen):Calls Tryz.prog 222 #[.string s] w (Vld1R s w):=by
 have HS:=Hd hs
 unfold maxLen at hs
 by_cases h0:s.size=0
 ·have H0:=Hd h0
  go_enter Tryz.func222,Tryz.ntmps222
  go_wp2_with (go_at_call 271;refine (digits_ex _ _ HS.out).mono ?_;rintro e w' ⟨b,rfl,_,rfl⟩)
  all_goals (go_ret;exact ⟨_,rfl,fun _=>⟨fun i hi=>by have:=H0.out;omega,.inl H0.out⟩,rfl⟩)
 ·have hp:0<s.size:=by omega
  have hb:=byteI_eq hp
  have hne:¬ s=ByteArray.empty:=by intro e;subst e;simp at hp
  clear h0
  by_cases h48:byteI s 0=48
  ·have q1:(byteI s 0 != 48)=false:=by simp [h48]
   go_enter Tryz.func222,Tryz.ntmps222
   go_wp2_with (go_at_call 271;refine (digits_ex _ _ HS.out).mono ?_;rintro e w' ⟨b,rfl,hbd,rfl⟩;have HBd:=Hd (show b=false∨DigS s by cases b;exact .inl rfl;exact .inr (hbd rfl));clear hbd)
   all_goals (go_ret;exact ⟨false,by first | rfl | (congr 2;simp [hne];done),fun h=>(by cases h),rfl⟩)
  ·have q1:(byteI s 0 != 48)=true:=by simp [h48]
   have H48:=Hd h48
   go_enter Tryz.func222,Tryz.ntmps222
   go_wp2_with (go_at_call 271;refine (digits_ex _ _ HS.out).mono ?_;rintro e w' ⟨b,rfl,hbd,rfl⟩;have HBd:=Hd (show b=false∨DigS s by cases b;exact .inl rfl;exact .inr (hbd rfl));clear hbd)
   all_goals first
    | (go_ret;exact ⟨false,rfl,fun h=>(by cases h),rfl⟩)
    | (go_ret
       refine ⟨_,rfl,fun h=>⟨?_,.inr H48.out⟩,rfl⟩
       rcases HBd.out with e | e
       ·subst e;first | (cases h;done) | (simp at h;done) | (exfalso;simp_all;done)
       ·exact e)
end Go.Proofs.YtagkjofpncpcpaaGreatDoor

/- Valid decimals of the reference (datakitref02.Valid), whole. -/
namespace Go.Proofs.YtagkjofpncpcpaaGreatDoor
open Go.RowKit
def Vld2R (d:DecD) (w:World) (e:Ending) (w':World):Prop:=∃ b,e=.returned (.bool b)∧(b=true→VDec d)∧Below w.heap.size w w'
theorem ne_toList {a:ByteArray} (h:0<a.size):¬ a.toList=[]:=by
 intro e
 have h3:a.toList.length=0:=by rw [e];rfl
 rw [ByteArray.toList_eq,Array.length_toList] at h3
 have h4:a.data.size=a.size:=rfl
 omega
theorem toList_nil {a:ByteArray} (h:a.size=0):a.toList=[]:=by
 have h4:a.data.size=a.size:=rfl
 rw [ByteArray.toList_eq]
 exact List.length_eq_zero_iff.1 (by rw [Array.length_toList];omega)
set_option maxRecDepth 100000 in
set_option maxHeartbeats 1600000 in
theorem valid02_ex (d:DecD) (w:World) (hs:d.digits.size≤maxLen):Calls Tryz.prog 155 #[.agg #[.bool d.neg,.string d.digits,.int .i64 d.exp]] w (Vld2R d w):=by
 have HS:=Hd hs
 by_cases h0:d.digits.size=0
 ·have hd:=toList_nil h0
  have H0:=Hd h0
  clear h0
  by_cases he:d.exp=0
  ·have HE:=Hd he
   cases hn:d.neg with
   | false =>
     have HV:=Hd (show VDec d from .inl ⟨H0.out,hn,he⟩)
     go_enter Tryz.func155,Tryz.ntmps155
     go_wp2_with fail
     all_goals (go_ret;exact ⟨_,rfl,fun _=>HV.out,Below.box _ _⟩)
   | true =>
     go_enter Tryz.func155,Tryz.ntmps155
     go_wp2_with fail
     all_goals (go_ret;exact ⟨false,rfl,fun h=>(by cases h),Below.box _ _⟩)
  ·have he1:(d.exp==0)=false:=by simp [he]
   cases hn:d.neg
   all_goals
    go_enter Tryz.func155,Tryz.ntmps155
    go_wp2_with fail
    all_goals (go_ret;exact ⟨false,rfl,fun h=>(by cases h),Below.box _ _⟩)
 ·have hp:0<d.digits.size:=by omega
  have hd:=ne_toList hp
  have hd1:(d.digits.toList==[])=false:=by simp [hd]
  have hd2:d.digits.toList.isEmpty=false:=by simp [hd]
  clear h0
  by_cases h120:d.digits.size≤120
  ·by_cases hx:-400≤d.exp∧d.exp≤400
   ·have HX:=Hd hx
    obtain ⟨hx1,hx2⟩:=hx
    go_enter Tryz.func155,Tryz.ntmps155
    go_wp2_with fail
    refine (valid01_ex _ _ HS.out).mono ?_
    rintro e w1 ⟨b,rfl,hv,rfl⟩
    cases b with
    | false =>
      clear hv
      go_wp2_with fail
      go_ret
      exact ⟨false,rfl,fun h=>(by cases h),Below.box _ _⟩
    | true =>
      have HV:=Hd (hv rfl)
      clear hv
      go_wp2_with fail
      refine (zeros_ex _ _ HS.out).mono ?_
      rintro e w2 ⟨k,rfl,hz,rfl⟩
      by_cases hk:k=0
      ·have HZ:=Hd (hz hk)
       clear hz
       subst hk
       go_wp2_with fail
       all_goals
        go_ret
        exact ⟨_,rfl,fun _=>.inr ⟨hp,h120,HV.out.1,HV.out.2.resolve_left (by omega),HZ.out.resolve_left (by omega),HX.out.1,HX.out.2⟩,Below.box _ _⟩
      ·have hk1:(k==0)=false:=by simp [hk]
       clear hz hk
       go_wp2_with fail
       all_goals (go_ret;exact ⟨false,rfl,fun h=>(by cases h),Below.box _ _⟩)
   ·have hx2:d.exp < -400∨400<d.exp:=by omega
    have HX:=Hd hx
    clear hx
    go_enter Tryz.func155,Tryz.ntmps155
    go_wp2_with fail
    refine (valid01_ex _ _ HS.out).mono ?_
    rintro e w1 ⟨b,rfl,_,rfl⟩
    cases b
    ·go_wp2_with fail
     go_ret
     exact ⟨false,rfl,fun h=>(by cases h),Below.box _ _⟩
    ·go_wp2_with fail
     refine (zeros_ex _ _ HS.out).mono ?_
     rintro e w2 ⟨k,rfl,_,rfl⟩
     rcases hx2 with hx2 | hx2
     all_goals
      go_wp2_with fail
      all_goals first
       | (go_ret;exact ⟨false,rfl,fun h=>(by cases h),Below.box _ _⟩)
       | (go_ret;exact ⟨false,by congr 2;simp;omega,fun h=>(by cases h),Below.box _ _⟩)
  ·have hgt:¬ (d.digits.size:Int)≤120:=by omega
   go_enter Tryz.func155,Tryz.ntmps155
   go_wp2_with fail
   all_goals (go_ret;exact ⟨false,rfl,fun h=>(by cases h),Below.box _ _⟩)
end Go.Proofs.YtagkjofpncpcpaaGreatDoor

/- The reference's Small (datakitref07): where it says yes, the value is no deeper than so much. -/
namespace Go.Proofs.YtagkjofpncpcpaaGreatDoor
open Go.RowKit
def fitsV:Nat→ValD→Prop
 | 0,_=>False
 | d+1,v=>(∀ x∈v.list,fitsV d x)∧(∀ f∈v.fields,fitsV d f.2)
def RoomR (n:Nat) (v:ValD) (w:World) (e:Ending) (w':World):Prop:=∃ (k:Int),e=.returned (.int .i64 k)∧(0≤k→fitsV n v)∧-1≤k∧k≤1000∧Below w.heap.size w w'
set_option maxRecDepth 100000 in
set_option maxHeartbeats 3200000 in
theorem room_ex (n:Nat):∀ (w:World) (B N:Nat) (v:ValD) (cs:List Value) (left:Int),n≤60→0≤left→left≤1000→N≤1099511627776→B≤w.heap.size→ValD.At w B N v cs →
 Calls Tryz.prog 32 #[.agg cs.toArray,.int .i64 left,.int .i64 n] w (RoomR n v w):=by
 induction n with
 | zero =>
   intro w B N v cs left hn hlf hlu hN hB hv
   clear hv
   go_enter Tryz.func32,Tryz.ntmps32
   go_wp2_with fail
   go_ret
   exact ⟨_,rfl,fun h=>absurd h (by decide),by omega,by omega,belowBox w _⟩
 | succ n ih =>
   intro w B N v cs left hn hlf hlu hN hB hv
   obtain ⟨ya,la,va,yc,lc,vc,hh⟩:=hv.has
   have hll:v.list.length≤N:=hh.own.2.2.2.2.2.2.2.2.2.1
   have hfl:v.fields.length≤N:=hh.own.2.2.2.2.2.2.2.2.2.2
   have c11:=hh.list
   have c12:=hh.fields
   have HH:=Hd hh
   have IH:=Hd ih
   clear hv hh ih
   by_cases hbig:left-1<v.list.length∨left-1<v.fields.length
   ·have hb2:left-1<v.list.length∨(¬ left-1<v.list.length∧left-1<v.fields.length):=by omega
    clear hbig
    rcases hb2 with h1 | ⟨h1,h2⟩
    all_goals
     go_enter Tryz.func32,Tryz.ntmps32
     go_wp2_with fail
     go_ret
     exact ⟨_,rfl,fun h=>absurd h (by decide),by omega,by omega,belowBox w _⟩
   have hb1:¬ left-1<v.list.length:=by omega
   have hb2:¬ left-1<v.fields.length:=by omega
   have hl0:0≤left-1:=by omega
   clear hbig
   go_enter Tryz.func32,Tryz.ntmps32
   go_wp2_with fail
   go_simp
   go_loopw [1,7] (fun l i wr=>∃ (x:Int) (k:Nat),k≤v.list.length∧-1≤x∧x≤1000∧l=.int .i64 x∧i=.int .i64 k∧Hid (0≤x→∀ j (h:j<v.list.length),j<k→fitsV n v.list[j])∧wr.cell? ⟨w.heap.size,11,none⟩=some (.slice la v.list.length lc)∧wr.cell? ⟨w.heap.size,12,none⟩=some (.slice va v.fields.length vc)∧w.heap.size<wr.heap.size∧Below w.heap.size w wr)
    (fun _ i _=>v.list.length-(intOf i).toNat)
   case atStart=>exact ⟨_,0,by omega,by omega,by omega,rfl,rfl,Hd (fun _ j _ hj=>absurd hj (by omega)),by go_simp,by go_simp,by simp,belowBox w _⟩
   case round =>
    obtain ⟨w1,rfl⟩:∃ w1,w1=wr:=⟨wr,rfl⟩
    obtain ⟨x,k,hk,hxl,hxu,rfl,rfl,hfit,hc11,hc12,hsz,hbel⟩:=hrel
    have HB:=Hd hbel
    clear hbel
    by_cases hgo:k<v.list.length∧0≤x
    ·obtain ⟨hlt,hx⟩:=hgo
     obtain ⟨b,o,rfl,hb,hget⟩:=HH.out.atList.get (by intro h;simp [h] at hlt)
     obtain ⟨cs1,h1,h2⟩:=hget k hlt
     have HR:=Hd (h1.below (HB.out.mono hB) hb).range
     have H4:=Hd (h2.below (HB.out.mono hB))
     have hl:=Hd (show (Tryz.prog.info? 30).map (·.size)=some cs1.length by rw [h2.len];exact sizeV)
     clear h1 h2 hget
     go_wp2_with (refine wpList_load_mid rfl 30 _ rfl b (o+k * 13) rfl cs1 _ HR.out Tryz.underlying30 rfl hl.out ?_)
     refine (IH.out _ B N _ _ x (by omega) hx hxu hN (Nat.le_trans hB HB.out.size) H4.out).mono ?_
     rintro e1 w2 ⟨y,rfl,hy,hyl,hyu,hb1'⟩
     have d11:=(hb1'.cell (p:=⟨w.heap.size,11,none⟩) hsz).trans hc11
     have d12:=(hb1'.cell (p:=⟨w.heap.size,12,none⟩) hsz).trans hc12
     have hs1:w.heap.size<w2.heap.size:=Nat.lt_of_lt_of_le hsz hb1'.size
     have HB1:=Hd (HB.out.trans (hb1'.mono HB.out.size))
     have HF:=Hd (show 0≤y→∀ j (h:j<v.list.length),j<k+1→fitsV n v.list[j] from fun h j hj hj2=>by
      by_cases e:j=k
      ·subst e;exact hy h
      ·exact hfit.out hx j hj (by omega))
     clear hb1' hc11 hc12 hsz hy hfit
     go_wp2_with fail
     go_roundw
     case rel=>exact ⟨y,k+1,by omega,hyl,hyu,rfl,by go_num,HF,d11,d12,hs1,HB1.out⟩
     case measure=>simp [intOf];omega
    ·have hgo':¬ k<v.list.length∨(k<v.list.length∧¬ 0≤x):=by omega
     have HFL:=Hd (show 0≤x→∀ y∈v.list,fitsV n y from fun h y hy=>by
      obtain ⟨j,hj,rfl⟩:=List.getElem_of_mem hy
      exact hfit.out h j hj (by omega))
     clear hgo hfit
     rcases hgo' with hgo | ⟨hg1,hg2⟩
     all_goals
      go_wp2_with fail
      go_simp
      go_loopw [1,8] (fun l i wr=>∃ (x2:Int) (k:Nat),k≤v.fields.length∧-1≤x2∧x2≤1000∧l=.int .i64 x2∧i=.int .i64 k∧Hid (0≤x2→0≤x∧∀ j (h:j<v.fields.length),j<k→fitsV n v.fields[j].2)∧wr.cell? ⟨w.heap.size,12,none⟩=some (.slice va v.fields.length vc)∧w.heap.size<wr.heap.size∧Below w.heap.size w wr)
       (fun _ i _=>v.fields.length-(intOf i).toNat)
      case atStart=>exact ⟨_,0,by omega,hxl,hxu,rfl,rfl,Hd (fun h=>⟨h,fun j _ hj=>absurd hj (by omega)⟩),hc12,hsz,HB.out⟩
      case round =>
       obtain ⟨w3,rfl⟩:∃ w3,w3=wr:=⟨wr,rfl⟩
       clear HB hc11 hc12 hsz
       obtain ⟨x2,k2,hk2,hxl2,hxu2,rfl,rfl,hfit2,hc12,hsz,hbel⟩:=hrel
       have HB:=Hd hbel
       clear hbel
       by_cases hgo2:k2<v.fields.length∧0≤x2
       ·obtain ⟨hlt2,hx2⟩:=hgo2
        obtain ⟨b,o,rfl,hb,hget⟩:=HH.out.atFields.get (by intro h;simp [h] at hlt2)
        obtain ⟨cs1,_,h1,h2⟩:=hget k2 hlt2
        have HR:=Hd (h1.tail.below (HB.out.mono hB) hb).range
        have H4:=Hd (h2.below (HB.out.mono hB))
        have hl:=Hd (show (Tryz.prog.info? 30).map (·.size)=some cs1.length by rw [h2.len];exact sizeV)
        clear h1 h2 hget
        go_wp2_with (refine wpList_load_mid rfl 30 _ rfl b (o+k2 * 14+1) rfl cs1 _ HR.out Tryz.underlying30 rfl hl.out ?_)
        refine (IH.out _ B N _ _ x2 (by omega) hx2 hxu2 hN (Nat.le_trans hB HB.out.size) H4.out).mono ?_
        rintro e1 w4 ⟨y,rfl,hy,hyl,hyu,hb1'⟩
        have d12:=(hb1'.cell (p:=⟨w.heap.size,12,none⟩) hsz).trans hc12
        have hs1:w.heap.size<w4.heap.size:=Nat.lt_of_lt_of_le hsz hb1'.size
        have HB1:=Hd (HB.out.trans (hb1'.mono HB.out.size))
        have HF:=Hd (show 0≤y→0≤x∧∀ j (h:j<v.fields.length),j<k2+1→fitsV n v.fields[j].2 from fun h=>⟨(hfit2.out hx2).1,fun j hj hj2=>by
         by_cases e:j=k2
         ·subst e;exact hy h
         ·exact (hfit2.out hx2).2 j hj (by omega)⟩)
        clear hb1' hc12 hsz hy hfit2
        go_wp2_with fail
        go_roundw
        case rel=>exact ⟨y,k2+1,by omega,hyl,hyu,rfl,by go_num,HF,d12,hs1,HB1.out⟩
        case measure=>simp [intOf];omega
       ·have hgo':¬ k2<v.fields.length∨(k2<v.fields.length∧¬ 0≤x2):=by omega
        have HD:=Hd (show 0≤x2→fitsV (n+1) v from fun h=>⟨HFL.out (hfit2.out h).1,fun f hf=>by
         obtain ⟨j,hj,rfl⟩:=List.getElem_of_mem hf
         exact (hfit2.out h).2 j hj (by omega)⟩)
        clear hgo2 hfit2
        rcases hgo' with hgo3 | ⟨hg3,hg4⟩
        all_goals
         go_wp2_with fail
         go_ret
         exact ⟨_,rfl,HD.out,hxl2,hxu2,HB.out⟩
def SmallR (n:Nat) (v:ValD) (w:World) (e:Ending) (w':World):Prop:=∃ b,e=.returned (.bool b)∧(b=true→fitsV n v)∧Below w.heap.size w w'
set_option maxRecDepth 100000 in
set_option maxHeartbeats 1600000 in
theorem small_ex (w:World) (B N:Nat) (v:ValD) (cs:List Value) (hN:N≤1099511627776) (hB:B≤w.heap.size) (hv:ValD.At w B N v cs) :
 Calls Tryz.prog 10 #[.agg cs.toArray,.int .i64 150,.int .i64 60] w (SmallR 60 v w):=by
 have HV:=Hd hv
 have hl:=Hd (show (Tryz.prog.info? 30).map (·.size)=some cs.length by rw [hv.len];exact sizeV)
 have H0:=Hd (show Below w.heap.size w (w.alloc (.cells cs.toArray 30)) from belowBox w _)
 clear hv
 go_enter Tryz.func10,Tryz.ntmps10
 go_wp2_with (refine wpList_load_mid rfl 30 _ rfl w.heap.size 0 rfl cs _ (box_at w cs 30).range Tryz.underlying30 rfl hl.out ?_)
 refine (room_ex 60 _ B N v cs 150 (by omega) (by omega) (by omega) hN (Nat.le_trans hB H0.out.size) (HV.out.below (H0.out.mono hB))).mono ?_
 rintro e w1 ⟨k,rfl,hk,_,_,hb1⟩
 have HK:=Hd hk
 have H1:=Hd (belowThen H0.out hb1)
 clear hb1 hk
 go_wp2_with fail
 go_ret
 refine ⟨_,rfl,fun h=>HK.out ?_,H1.out⟩
 simpa using h
end Go.Proofs.YtagkjofpncpcpaaGreatDoor
