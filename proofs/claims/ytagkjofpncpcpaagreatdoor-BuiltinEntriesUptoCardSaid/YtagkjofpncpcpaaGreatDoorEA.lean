/- The reference's Small (datakitref07), with the number of the values: where it says yes, the value is no deeper than so much and has no more values than so many. -/
import Derived.Test.YtagkjofpncpcpaaGreatDoorProg
import Derived.Test.YtagkjofpncpcpaaGreatDoorGA
import Derived.Test.YtagkjofpncpcpaaGreatDoorGB
import Derived.Test.YtagkjofpncpcpaaGreatDoorGC
import Derived.Test.YtagkjofpncpcpaaGreatDoorUtf8D
import Derived.Test.YtagkjofpncpcpaaGreatDoorGF
import Derived.Test.YtagkjofpncpcpaaGreatDoorXA
import Derived.Test.YtagkjofpncpcpaaGreatDoorXD
import Derived.Test.YtagkjofpncpcpaaGreatDoorXK
import Derived.Test.YtagkjofpncpcpaaGreatDoorAE
import Derived.Test.YtagkjofpncpcpaaGreatDoorAF
import Derived.Test.YtagkjofpncpcpaaGreatDoorJA
namespace Go.Proofs.YtagkjofpncpcpaaGreatDoor
open Go.RowKit
def nodD:Nat→ValD→Nat
 | 0,_=>0
 | m+1,v=>1+((v.list.map (nodD m)).sum+((v.fields.map (·.2)).map (nodD m)).sum)
def sumN (n:Nat) (l:List ValD):Int:=((l.map (nodD n)).sum:Nat)
theorem nodD_succ {n:Nat} {v:ValD}:(nodD (n+1) v:Int)=1+(sumN n v.list+sumN n (v.fields.map (·.2))):=by
 unfold sumN
 rw [nodD]
 omega
theorem sumN_succ {n:Nat} {l:List ValD} {k:Nat} (h:k<l.length):sumN n (l.take (k+1))=sumN n (l.take k)+nodD n l[k]:=by
 unfold sumN
 rw [List.take_succ_eq_append_getElem h,List.map_append,List.sum_append]
 simp
def RoomC (n:Nat) (v:ValD) (left:Int) (w:World) (e:Ending) (w':World):Prop:=∃ (k:Int),e=.returned (.int .i64 k)∧(0≤k→fitsV n v∧k+nodD n v=left)∧-1≤k∧k≤1000∧Below w.heap.size w w'
set_option maxRecDepth 100000 in
set_option maxHeartbeats 3200000 in
theorem room_c (n:Nat):∀ (w:World) (B N:Nat) (v:ValD) (cs:List Value) (left:Int),n≤60→0≤left→left≤1000→N≤1099511627776→B≤w.heap.size→ValD.At w B N v cs →
 Calls Tryz.prog 32 #[.agg cs.toArray,.int .i64 left,.int .i64 n] w (RoomC n v left w):=by
 induction n with
 | zero =>
   intro w B N v cs left hn hlf hlu hN hB hv
   clear hv
   go_enter Tryz.func32,Tryz.ntmps32
   go_wp2_with fail
   go_ret
   exact ⟨_,rfl,fun h=>absurd h (by decide),by omega,by omega,belowBox w _⟩
 | succ n ih =>
   intro w B N v cs left hn hlf hlu hN hB hv
   obtain ⟨ya,la,va,yc,lc,vc,hh⟩:=hv.has
   have hll:v.list.length≤N:=hh.own.2.2.2.2.2.2.2.2.2.1
   have hfl:v.fields.length≤N:=hh.own.2.2.2.2.2.2.2.2.2.2
   have c11:=hh.list
   have c12:=hh.fields
   have HH:=Hd hh
   have IH:=Hd ih
   clear hv hh ih
   by_cases hbig:left-1<v.list.length∨left-1<v.fields.length
   ·have hb2:left-1<v.list.length∨(¬ left-1<v.list.length∧left-1<v.fields.length):=by omega
    clear hbig
    rcases hb2 with h1 | ⟨h1,h2⟩
    all_goals
     go_enter Tryz.func32,Tryz.ntmps32
     go_wp2_with fail
     go_ret
     exact ⟨_,rfl,fun h=>absurd h (by decide),by omega,by omega,belowBox w _⟩
   have hb1:¬ left-1<v.list.length:=by omega
   have hb2:¬ left-1<v.fields.length:=by omega
   have hl0:0≤left-1:=by omega
   clear hbig
   go_enter Tryz.func32,Tryz.ntmps32
   go_wp2_with fail
   go_simp
   go_loopw [1,7] (fun l i wr=>∃ (x:Int) (k:Nat),k≤v.list.length∧-1≤x∧x≤1000∧l=.int .i64 x∧i=.int .i64 k∧Hid (0≤x→(∀ j (h:j<v.list.length),j<k→fitsV n v.list[j])∧x+sumN n (v.list.take k)=left-1)∧wr.cell? ⟨w.heap.size,11,none⟩=some (.slice la v.list.length lc)∧wr.cell? ⟨w.heap.size,12,none⟩=some (.slice va v.fields.length vc)∧w.heap.size<wr.heap.size∧Below w.heap.size w wr)
    (fun _ i _=>v.list.length-(intOf i).toNat)
   case atStart=>exact ⟨_,0,by omega,by omega,by omega,rfl,rfl,Hd (fun _=>⟨fun j _ hj=>absurd hj (by omega),by simp [sumN]⟩),by go_simp,by go_simp,by simp,belowBox w _⟩
   case round =>
    obtain ⟨w1,rfl⟩:∃ w1,w1=wr:=⟨wr,rfl⟩
    obtain ⟨x,k,hk,hxl,hxu,rfl,rfl,hfit,hc11,hc12,hsz,hbel⟩:=hrel
    have HB:=Hd hbel
    clear hbel
    by_cases hgo:k<v.list.length∧0≤x
    ·obtain ⟨hlt,hx⟩:=hgo
     obtain ⟨b,o,rfl,hb,hget⟩:=HH.out.atList.get (by intro h;simp [h] at hlt)
     obtain ⟨cs1,h1,h2⟩:=hget k hlt
     have HR:=Hd (h1.below (HB.out.mono hB) hb).range
     have H4:=Hd (h2.below (HB.out.mono hB))
     have hl:=Hd (show (Tryz.prog.info? 30).map (·.size)=some cs1.length by rw [h2.len];exact sizeV)
     clear h1 h2 hget
     go_wp2_with (refine wpList_load_mid rfl 30 _ rfl b (o+k * 13) rfl cs1 _ HR.out Tryz.underlying30 rfl hl.out ?_)
     refine (IH.out _ B N _ _ x (by omega) hx hxu hN (Nat.le_trans hB HB.out.size) H4.out).mono ?_
     rintro e1 w2 ⟨y,rfl,hy,hyl,hyu,hb1'⟩
     have d11:=(hb1'.cell (p:=⟨w.heap.size,11,none⟩) hsz).trans hc11
     have d12:=(hb1'.cell (p:=⟨w.heap.size,12,none⟩) hsz).trans hc12
     have hs1:w.heap.size<w2.heap.size:=Nat.lt_of_lt_of_le hsz hb1'.size
     have HB1:=Hd (HB.out.trans (hb1'.mono HB.out.size))
     have HF:=Hd (show 0≤y→(∀ j (h:j<v.list.length),j<k+1→fitsV n v.list[j])∧y+sumN n (v.list.take (k+1))=left-1 from fun h=>⟨fun j hj hj2=>by
      by_cases e:j=k
      ·subst e;exact (hy h).1
      ·exact (hfit.out hx).1 j hj (by omega),by
      have h1:=(hy h).2
      have h2:=(hfit.out hx).2
      rw [sumN_succ hlt]
      omega⟩)
     clear hb1' hc11 hc12 hsz hy hfit
     go_wp2_with fail
     go_roundw
     case rel=>exact ⟨y,k+1,by omega,hyl,hyu,rfl,by go_num,HF,d11,d12,hs1,HB1.out⟩
     case measure=>simp [intOf];omega
    ·have hgo':¬ k<v.list.length∨(k<v.list.length∧¬ 0≤x):=by omega
     have HFL:=Hd (show 0≤x→(∀ y∈v.list,fitsV n y)∧x+sumN n v.list=left-1 from fun h=>⟨fun y hy=>by
      obtain ⟨j,hj,rfl⟩:=List.getElem_of_mem hy
      exact (hfit.out h).1 j hj (by omega),by
      have h2:=(hfit.out h).2
      rwa [show k=v.list.length by omega,List.take_length] at h2⟩)
     clear hgo hfit
     rcases hgo' with hgo | ⟨hg1,hg2⟩
     all_goals
      go_wp2_with fail
      go_simp
      go_loopw [1,8] (fun l i wr=>∃ (x2:Int) (k:Nat),k≤v.fields.length∧-1≤x2∧x2≤1000∧l=.int .i64 x2∧i=.int .i64 k∧Hid (0≤x2→0≤x∧(∀ j (h:j<v.fields.length),j<k→fitsV n v.fields[j].2)∧x2+sumN n ((v.fields.map (·.2)).take k)=x)∧wr.cell? ⟨w.heap.size,12,none⟩=some (.slice va v.fields.length vc)∧w.heap.size<wr.heap.size∧Below w.heap.size w wr)
       (fun _ i _=>v.fields.length-(intOf i).toNat)
      case atStart=>exact ⟨_,0,by omega,hxl,hxu,rfl,rfl,Hd (fun h=>⟨h,fun j _ hj=>absurd hj (by omega),by simp [sumN]⟩),hc12,hsz,HB.out⟩
      case round =>
       obtain ⟨w3,rfl⟩:∃ w3,w3=wr:=⟨wr,rfl⟩
       clear HB hc11 hc12 hsz
       obtain ⟨x2,k2,hk2,hxl2,hxu2,rfl,rfl,hfit2,hc12,hsz,hbel⟩:=hrel
       have HB:=Hd hbel
       clear hbel
       by_cases hgo2:k2<v.fields.length∧0≤x2
       ·obtain ⟨hlt2,hx2⟩:=hgo2
        obtain ⟨b,o,rfl,hb,hget⟩:=HH.out.atFields.get (by intro h;simp [h] at hlt2)
        obtain ⟨cs1,_,h1,h2⟩:=hget k2 hlt2
        have HR:=Hd (h1.tail.below (HB.out.mono hB) hb).range
        have H4:=Hd (h2.below (HB.out.mono hB))
        have hl:=Hd (show (Tryz.prog.info? 30).map (·.size)=some cs1.length by rw [h2.len];exact sizeV)
        clear h1 h2 hget
        go_wp2_with (refine wpList_load_mid rfl 30 _ rfl b (o+k2 * 14+1) rfl cs1 _ HR.out Tryz.underlying30 rfl hl.out ?_)
        refine (IH.out _ B N _ _ x2 (by omega) hx2 hxu2 hN (Nat.le_trans hB HB.out.size) H4.out).mono ?_
        rintro e1 w4 ⟨y,rfl,hy,hyl,hyu,hb1'⟩
        have d12:=(hb1'.cell (p:=⟨w.heap.size,12,none⟩) hsz).trans hc12
        have hs1:w.heap.size<w4.heap.size:=Nat.lt_of_lt_of_le hsz hb1'.size
        have HB1:=Hd (HB.out.trans (hb1'.mono HB.out.size))
        have HF:=Hd (show 0≤y→0≤x∧(∀ j (h:j<v.fields.length),j<k2+1→fitsV n v.fields[j].2)∧y+sumN n ((v.fields.map (·.2)).take (k2+1))=x from fun h=>⟨(hfit2.out hx2).1,fun j hj hj2=>by
         by_cases e:j=k2
         ·subst e;exact (hy h).1
         ·exact (hfit2.out hx2).2.1 j hj (by omega),by
         have h1:=(hy h).2
         have h2:=(hfit2.out hx2).2.2
         rw [sumN_succ (by rw [List.length_map];exact hlt2),List.getElem_map]
         omega⟩)
        clear hb1' hc12 hsz hy hfit2
        go_wp2_with fail
        go_roundw
        case rel=>exact ⟨y,k2+1,by omega,hyl,hyu,rfl,by go_num,HF,d12,hs1,HB1.out⟩
        case measure=>simp [intOf];omega
       ·have hgo':¬ k2<v.fields.length∨(k2<v.fields.length∧¬ 0≤x2):=by omega
        have HD:=Hd (show 0≤x2→fitsV (n+1) v∧x2+nodD (n+1) v=left from fun h=>⟨⟨(HFL.out (hfit2.out h).1).1,fun f hf=>by
         obtain ⟨j,hj,rfl⟩:=List.getElem_of_mem hf
         exact (hfit2.out h).2.1 j hj (by omega)⟩,by
         have h1:=(HFL.out (hfit2.out h).1).2
         have h2:=(hfit2.out h).2.2
         rw [List.take_of_length_le (by rw [List.length_map];omega)] at h2
         rw [nodD_succ]
         omega⟩)
        clear hgo2 hfit2
        rcases hgo' with hgo3 | ⟨hg3,hg4⟩
        all_goals
         go_wp2_with fail
         go_ret
         exact ⟨_,rfl,HD.out,hxl2,hxu2,HB.out⟩
def SmallC (n:Nat) (v:ValD) (w:World) (e:Ending) (w':World):Prop:=∃ b,e=.returned (.bool b)∧(b=true→fitsV n v∧nodD n v≤40)∧Below w.heap.size w w'
set_option maxRecDepth 100000 in
set_option maxHeartbeats 1600000 in
theorem small_c (w:World) (B N:Nat) (v:ValD) (cs:List Value) (hN:N≤1099511627776) (hB:B≤w.heap.size) (hv:ValD.At w B N v cs) :
 Calls Tryz.prog 10 #[.agg cs.toArray,.int .i64 40,.int .i64 46] w (SmallC 46 v w):=by
 have HV:=Hd hv
 have hl:=Hd (show (Tryz.prog.info? 30).map (·.size)=some cs.length by rw [hv.len];exact sizeV)
 have H0:=Hd (show Below w.heap.size w (w.alloc (.cells cs.toArray 30)) from belowBox w _)
 clear hv
 go_enter Tryz.func10,Tryz.ntmps10
 go_wp2_with (refine wpList_load_mid rfl 30 _ rfl w.heap.size 0 rfl cs _ (box_at w cs 30).range Tryz.underlying30 rfl hl.out ?_)
 refine (room_c 46 _ B N v cs 40 (by omega) (by omega) (by omega) hN (Nat.le_trans hB H0.out.size) (HV.out.below (H0.out.mono hB))).mono ?_
 rintro e w1 ⟨k,rfl,hk,_,_,hb1⟩
 have HK:=Hd hk
 have H1:=Hd (belowThen H0.out hb1)
 clear hb1 hk
 go_wp2_with fail
 go_ret
 refine ⟨_,rfl,fun h=>?_,H1.out⟩
 have h0:0≤k:=by simpa using h
 have h1:=HK.out h0
 exact ⟨h1.1,by have:=h1.2;omega⟩
end Go.Proofs.YtagkjofpncpcpaaGreatDoor

/- The entries of a map, plain: their check finds nothing where that of the map finds nothing and the map is small (for the law BuiltinEntries). -/
namespace Go.Proofs.YtagkjofpncpcpaaGreatDoor
open Go.RowKit
def nodK:Nat→ValD→Nat
 | 0,_=>0
 | m+1,v=>1+((kidsD v).map (nodK m)).sum
def godK:Nat→ValD→Prop
 | 0,_=>False
 | m+1,v=>oneE v=0∧∀ x∈kidsD v,godK m x
theorem sum_le_sum {l:List ValD} {f g:ValD→Nat} (h:∀ x∈l,f x≤g x):(l.map f).sum≤(l.map g).sum:=by
 induction l with
 | nil=>exact Nat.le_refl _
 | cons x r ih =>
   rw [List.map_cons,List.map_cons,List.sum_cons,List.sum_cons]
   exact Nat.add_le_add (h x (List.mem_cons_self ..)) (ih fun y hy=>h y (List.mem_cons_of_mem _ hy))
theorem nodK_le:∀ (m:Nat) (v:ValD),nodK m v≤nodD m v
 | 0,_=>Nat.le_refl _
 | m+1,v=>by
   rw [nodK,nodD]
   unfold kidsD
   split
   ·have:=sum_le_sum (l:=v.fields.map (·.2)) (fun x _=>nodK_le m x)
    omega
   ·have:=sum_le_sum (l:=v.list) (fun x _=>nodK_le m x)
    omega
theorem godK_of:∀ (m:Nat) (v:ValD) (s:Int),(lookD m v s).2=0→godK m v
 | 0,_,_,h=>by simp [lookD] at h
 | m+1,v,s,h=>by
   unfold lookD at h
   split at h
   ·simp at h
   ·split at h
    ·rename_i h1
     exact ⟨h1,kidsL_all (godK_of m) _ _ h⟩
    ·rename_i h1
     exact absurd h h1
theorem kids_fits {m:Nat} {v x:ValD} (h:fitsV (m+1) v) (hx:x∈kidsD v):fitsV m x:=by
 unfold kidsD at hx
 split at hx
 ·obtain ⟨f,hf,rfl⟩:=List.mem_map.1 hx
  exact h.2 f hf
 ·exact h.1 x hx
theorem kidsL_sum {f:ValD→Int→Int×Int} {g:ValD→Nat}:∀ (l:List ValD) (s:Int),(∀ x∈l,∀ s:Int,s+g x≤65536→f x s=(s+g x,0))→s+((l.map g).sum:Nat)≤65536→kidsL f l s=(s+((l.map g).sum:Nat),0)
 | [],s,_,_=>by simp [kidsL]
 | x::r,s,h,hs=>by
   rw [List.map_cons,List.sum_cons] at hs ⊢
   have e:=h x (List.mem_cons_self ..) s (by omega)
   unfold kidsL
   rw [e,if_pos rfl,kidsL_sum r _ (fun y hy=>h y (List.mem_cons_of_mem _ hy)) (by show s+(g x:Int)+_≤_;omega)]
   congr 1
   show s+(g x:Int)+_=_
   omega
theorem look_fits:∀ (m:Nat) (v:ValD) (n k:Nat) (s:Int),fitsV m v→godK n v→m≤k→s+nodK m v≤65536→lookD k v s=(s+nodK m v,0)
 | 0,_,_,_,_,h,_,_,_=>h.elim
 | m+1,_,0,_,_,_,h,_,_=>h.elim
 | m+1,_,_+1,0,_,_,_,h,_=>absurd h (by omega)
 | m+1,v,n+1,k+1,s,hf,hg,hk,hs=>by
   rw [nodK] at hs ⊢
   unfold lookD
   rw [if_neg (by omega),if_pos hg.1,kidsL_sum (g:=nodK m) _ _ (fun x hx s hs=>look_fits m x n k s (kids_fits hf hx) (hg.2 x hx) (by omega) hs) (by omega)]
   congr 1
   omega
def keyB:ByteArray:=⟨#[107,101,121]⟩
def valB:ByteArray:=⟨#[118,97,108,117,101]⟩
def entD (k:ByteArray) (x:ValD):ValD:=mapD [(keyB,textD k),(valB,x)]
def entsD (l:List (ByteArray×ValD)):ValD:=lisD (l.map fun f=>entD f.1 f.2)
theorem lis_one (l:List ValD):oneE (lisD l)=0:=by
 have h1:ownB (lisD l)=true:=by
  unfold ownB
  rw [decide_eq_true_eq]
  refine ⟨show (0:Int)≤6 by decide,show (6:Int)≤7 by decide,fun _=>rfl,fun _=>d0,fun _=>t0,fun _=>rfl,fun _=>rfl,fun h=>absurd rfl h,fun _=>rfl⟩
 have h2:vdecB (lisD l).num=true:=v0
 have h3:validS (⟨#[]⟩:ByteArray)=true:=by decide
 unfold oneE
 rw [if_neg (by rw [h1];decide),if_neg (by rw [h2];rintro (h | ⟨h,_⟩);· cases h
                                           ·cases h),if_neg (by show ¬ validS ⟨#[]⟩=false;rw [h3];decide),if_neg (by show ¬ (65536<(⟨#[]⟩:ByteArray).size∨65536<0);decide)]
 rfl
theorem map_one {l:List (ByteArray×ValD)} (h:keysE [] (l.map (·.1))=0):oneE (mapD l)=0:=by
 have h1:ownB (mapD l)=true:=by
  unfold ownB
  rw [decide_eq_true_eq]
  refine ⟨show (0:Int)≤7 by decide,show (7:Int)≤7 by decide,fun _=>rfl,fun _=>d0,fun _=>t0,fun _=>rfl,fun _=>rfl,fun _=>rfl,fun h=>absurd rfl h⟩
 have h2:vdecB (mapD l).num=true:=v0
 have h3:validS (⟨#[]⟩:ByteArray)=true:=by decide
 unfold oneE
 rw [if_neg (by rw [h1];decide),if_neg (by rw [h2];rintro (h | ⟨h,_⟩);· cases h
                                           ·cases h),if_neg (by show ¬ validS ⟨#[]⟩=false;rw [h3];decide),if_neg (by show ¬ (65536<(⟨#[]⟩:ByteArray).size∨65536<0);decide)]
 exact h
theorem ent_one (k:ByteArray) (x:ValD):oneE (entD k x)=0:=map_one (show keysE [] [keyB,valB]=0 by decide)
theorem keysE_each:∀ (l:List ByteArray) (seen:List (List UInt8)),keysE seen l=0→∀ k∈l,validS k=true∧k.size≤1024
 | [],_,_,_,h=>by cases h
 | k::r,seen,h,x,hx=>by
   unfold keysE at h
   split at h
   ·omega
   ·rename_i h1
    split at h
    ·omega
    ·rename_i h2
     split at h
     ·omega
     ·rcases List.mem_cons.1 hx with rfl | hx
      ·exact ⟨by simpa using h1,by omega⟩
      ·exact keysE_each r _ h x hx
theorem oneE_keys {v:ValD} (h:oneE v=0):keysE [] (keyD v)=0:=by
 unfold oneE at h
 split at h
 ·omega
 ·split at h
  ·omega
  ·split at h
   ·omega
   ·split at h
    ·omega
    ·exact h
theorem oneE_own {v:ValD} (h:oneE v=0):ownB v=true:=by
 unfold oneE at h
 split at h
 ·omega
 ·rename_i h1
  simpa using h1
theorem text_look {k:ByteArray} (m:Nat) (s:Int) (hv:validS k=true) (hs:k.size≤65536) (hk:s+1≤65536):lookD (m+1) (textD k) s=(s+1,0):=by
 show (if (65536:Int)≤s then (s,(10:Int)) else if oneE (textD k)=0 then kidsL (lookD m) (kidsD (textD k)) (s+1) else (s,oneE (textD k)))=_
 rw [if_neg (by omega),if_pos (text_one hv hs)]
 rfl
theorem ent_look {k:ByteArray} {x:ValD} {n:Nat} {s:Int} (hv:validS k=true) (hs:k.size≤65536) (hf:fitsV 45 x) (hg:godK n x) (hk:s+((2+nodK 45 x:Nat):Int)≤65536):lookD 47 (entD k x) s=(s+((2+nodK 45 x:Nat):Int),0):=by
 show (if (65536:Int)≤s then (s,(10:Int)) else if oneE (entD k x)=0 then kidsL (lookD 46) [textD k,x] (s+1) else (s,oneE (entD k x)))=_
 rw [if_neg (by omega),if_pos (ent_one k x)]
 unfold kidsL
 rw [text_look 45 _ hv hs (by omega),if_pos rfl]
 unfold kidsL
 have e:=look_fits 45 x n 46 (s+1+1) hf hg (by omega) (by omega)
 rw [e,if_pos rfl]
 unfold kidsL
 congr 1
 show s+1+1+(nodK 45 x:Int)=_
 omega
theorem sum_ge_len {l:List ValD} {g:ValD→Nat} (h:∀ x∈l,1≤g x):l.length≤(l.map g).sum:=by
 induction l with
 | nil=>exact Nat.le_refl _
 | cons x r ih =>
   rw [List.map_cons,List.sum_cons,List.length_cons]
   have:=h x (List.mem_cons_self ..)
   have:=ih fun y hy=>h y (List.mem_cons_of_mem _ hy)
   omega
theorem sum_two {l:List ValD} {g:ValD→Nat}:(l.map fun x=>2+g x).sum=2 * l.length+(l.map g).sum:=by
 induction l with
 | nil=>rfl
 | cons x r ih =>
   rw [List.map_cons,List.sum_cons,List.map_cons,List.sum_cons,List.length_cons,ih]
   omega
theorem ents_ok {v:ValD} (h7:v.kind=7) (hc:chkD v=0) (hf:fitsV 46 v) (hn:nodD 46 v≤40):chkD (entsD v.fields)=0:=by
 have hg:=godK_of 48 v 0 hc
 have hk:kidsD v=v.fields.map (·.2):=if_pos h7
 have hks:=keysE_each _ _ (oneE_keys hg.1)
 have h40:nodK 46 v≤40:=Nat.le_trans (nodK_le 46 v) hn
 rw [nodK,hk] at h40
 have hlen:(v.fields.map (·.2)).length≤((v.fields.map (·.2)).map (nodK 45)).sum:=sum_ge_len fun x hx=>by
  rw [nodK]
  omega
 have e:∀ (l:List (ByteArray×ValD)),(∀ f∈l,(validS f.1=true∧f.1.size≤65536)∧fitsV 45 f.2∧godK 47 f.2)→∀ s:Int,s+((((l.map (·.2)).map fun x=>2+nodK 45 x).sum:Nat):Int)≤65536 →
  (kidsL (lookD 47) (l.map fun f=>entD f.1 f.2) s).2=0:=by
  intro l
  induction l with
  | nil=>intro _ s _;rfl
  | cons f r ih =>
    intro hl s hs
    rw [List.map_cons,List.map_cons,List.sum_cons] at hs
    obtain ⟨⟨a1,a2⟩,a3,a4⟩:=hl f (List.mem_cons_self ..)
    rw [List.map_cons]
    unfold kidsL
    rw [ent_look a1 a2 a3 a4 (by omega),if_pos rfl]
    exact ih (fun y hy=>hl y (List.mem_cons_of_mem _ hy)) _ (by show s+_+_≤_;omega)
 show (if (65536:Int)≤0 then ((0:Int),(10:Int)) else if oneE (entsD v.fields)=0 then kidsL (lookD 47) (v.fields.map fun f=>entD f.1 f.2) (0+1) else (0,oneE (entsD v.fields))).2=0
 rw [if_neg (by decide),if_pos (show oneE (entsD v.fields)=0 from lis_one _)]
 refine e _ (fun f hf'=>?_) _ ?_
 ·have hm:f.2∈kidsD v:=by rw [hk];exact List.mem_map.2 ⟨f,hf',rfl⟩
  have hq:=hks f.1 (List.mem_map.2 ⟨f,hf',rfl⟩)
  exact ⟨⟨hq.1,by omega⟩,hf.2 f hf',hg.2 _ hm⟩
 ·rw [sum_two]
  omega
end Go.Proofs.YtagkjofpncpcpaaGreatDoor

/- A valid map is what its fields make (for the law BuiltinEntries). -/
namespace Go.Proofs.YtagkjofpncpcpaaGreatDoor
open Go.RowKit
theorem ba_nil {b:ByteArray} (h:b.size=0):b=⟨#[]⟩:=by
 obtain ⟨a⟩:=b
 have h2:a.size=0:=h
 congr 1
 exact Array.eq_empty_of_size_eq_zero h2
theorem dec_nil {d:DecD} (h:decB d ⟨false,⟨#[]⟩,0⟩=true):d=⟨false,⟨#[]⟩,0⟩:=by
 obtain ⟨n,g,e⟩:=d
 unfold decB at h
 simp only [Bool.and_eq_true,beq_iff_eq] at h
 obtain ⟨h1,h2,h3⟩:=h
 rw [ByteArray.toList_eq,ByteArray.toList_eq] at h2
 have h4:g.size=0:=by
  have h5:g.data.toList.length=0:=by rw [h2];rfl
  rwa [Array.length_toList] at h5
 rw [h1,h3,ba_nil h4]
theorem time_nil {t:TimeD} (h:timeB t ⟨0,0,0,0⟩=true):t=⟨0,0,0,0⟩:=by
 obtain ⟨a,b,c,d⟩:=t
 unfold timeB at h
 simp only [Bool.and_eq_true,beq_iff_eq] at h
 obtain ⟨h1,h2,h3,h4⟩:=h
 rw [h1,h2,h3,h4]
theorem own_map {v:ValD} (h:ownB v=true) (h7:v.kind=7):mapD v.fields=v:=by
 obtain ⟨k,b,n,t,s,bs,l,f⟩:=v
 have h7':k=7:=h7
 subst h7'
 unfold ownB at h
 rw [decide_eq_true_eq] at h
 obtain ⟨_,_,a1,a2,a3,a4,a5,a6,_⟩:=h
 have e1:b=false:=a1 (by show ¬ (7:Int)=1;decide)
 have e2:n=⟨false,⟨#[]⟩,0⟩:=dec_nil (a2 (by show ¬ (7:Int)=2;decide))
 have e3:t=⟨0,0,0,0⟩:=time_nil (a3 (by show ¬ (7:Int)=3;decide))
 have e4:s=⟨#[]⟩:=ba_nil (a4 (by show ¬ (7:Int)=4;decide))
 have e5:bs=[]:=List.length_eq_zero_iff.1 (a5 (by show ¬ (7:Int)=5;decide))
 have e6:l=[]:=List.length_eq_zero_iff.1 (a6 (by show ¬ (7:Int)=6;decide))
 subst e1 e2 e3 e4 e5 e6
 rfl
theorem keys_nodup:∀ (l:List ByteArray) (seen:List (List UInt8)),keysE seen l=0→(l.map (·.data.toList)).Nodup∧∀ k∈l,k.data.toList ∉ seen
 | [],_,_=>⟨List.nodup_nil,fun _ h=>by cases h⟩
 | k::r,seen,h=>by
   unfold keysE at h
   split at h
   ·omega
   ·split at h
    ·omega
    ·split at h
     ·omega
     ·rename_i h3
      obtain ⟨a,b⟩:=keys_nodup r _ h
      refine ⟨?_,fun x hx=>?_⟩
      ·rw [List.map_cons,List.nodup_cons]
       refine ⟨fun hm=>?_,a⟩
       obtain ⟨y,hy,e⟩:=List.mem_map.1 hm
       exact b y hy (by rw [e];simp)
      ·rcases List.mem_cons.1 hx with rfl | hx
       ·exact h3
       ·exact fun hs=>b x hx (List.mem_append_left _ hs)
theorem map_keys {v:ValD} (hc:chkD v=0):(keysL v.fields).Nodup∧∀ f∈v.fields,validS f.1=true∧f.1.size≤1024:=by
 have hg:=oneE_keys (godK_of 48 v 0 hc).1
 refine ⟨?_,fun f hf=>keysE_each _ _ hg f.1 (List.mem_map.2 ⟨f,hf,rfl⟩)⟩
 have h:=(keys_nodup _ _ hg).1
 unfold keyD at h
 rwa [List.map_map] at h
theorem map_own {v:ValD} (hc:chkD v=0) (h7:v.kind=7):mapD v.fields=v:=own_map (oneE_own (godK_of 48 v 0 hc).1) h7
theorem fields_le {v:ValD} (h:nodD 46 v≤40):v.fields.length≤40:=by
 rw [nodD] at h
 have:=sum_ge_len (l:=v.fields.map (·.2)) (g:=nodD 45) (fun x _=>by rw [nodD];omega)
 rw [List.length_map] at this
 omega
end Go.Proofs.YtagkjofpncpcpaaGreatDoor
