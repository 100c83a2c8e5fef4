/- What stays of a copy while more is made beside it: no program here. -/
import Derived.Test.YtniljgkkcnekgaaGreatDoorProg
import Derived.Test.YtniljgkkcnekgaaGreatDoorGA
import Derived.Test.YtniljgkkcnekgaaGreatDoorGB
import Derived.Test.YtniljgkkcnekgaaGreatDoorHN
import Derived.Test.YtniljgkkcnekgaaGreatDoorGD
import Derived.Deep.AppendLies
import Derived.Lib.SliceRun
import Derived.OrdersHeld
import Derived.Laws.CopyOwn
import Derived.Deep.WholeRow
import Derived.Laws.CopyRow
namespace Go.Proofs.YtniljgkkcnekgaaGreatDoor
open Go.RowKit
def Keep (L:Nat) (no:Option Nat) (a b:World):Prop:=a.heap.size≤b.heap.size∧∀ k,L≤k→k<a.heap.size→no≠some k→b.heap[k]?=a.heap[k]?
theorem Keep.refl (L:Nat) (no:Option Nat) (a:World):Keep L no a a:=⟨Nat.le_refl _,fun _ _ _ _=>rfl⟩
theorem Keep.step {L:Nat} {no no2:Option Nat} {a b c:World} (h:Keep L no a b) (k:Keep L no2 b c) (hn:∀ q,L≤q→no2=some q→no=some q∨a.heap.size≤q):Keep L no a c :=
 ⟨Nat.le_trans h.1 k.1,fun q h1 h2 h3=>(k.2 q h1 (Nat.lt_of_lt_of_le h2 h.1) (fun e=>(hn q h1 e).elim h3 (fun g=>by omega))).trans (h.2 q h1 h2 h3)⟩
theorem Keep.wide {L L':Nat} {no:Option Nat} {a b:World} (h:Keep L no a b) (hL:L≤L'):Keep L' no a b:=⟨h.1,fun k h1=>h.2 k (Nat.le_trans hL h1)⟩
theorem keep_below {B L:Nat} {no:Option Nat} {a b:World} (h:Below B a b) (hB:a.heap.size≤B):Keep L no a b:=⟨h.size,fun k _ h2 _=>h.block k (Nat.lt_of_lt_of_le h2 hB)⟩
theorem keep_grown {L:Nat} {row:Option Nat} {a b:World} (h:a.grownBy b row):Keep L row a b:=⟨h.size,fun k _ h2 h3=>h.block k h2 (fun e=>h3 e.symm)⟩
theorem keep_grown_far {L:Nat} {row:Option Nat} {a b:World} (h:a.grownBy b row) (hr:∀ q,row=some q→q<L):Keep L none a b:=⟨h.size,fun k h1 h2 _=>h.block k h2 (fun e=>by have:=hr k e.symm;omega)⟩
def Safe (L:Nat) (no:Option Nat) (a:World) (T:World→Prop):Prop:=∀ b,Keep L no a b→T b
theorem Safe.here {L:Nat} {no:Option Nat} {a:World} {T:World→Prop} (h:Safe L no a T):T a:=h a (Keep.refl _ _ _)
theorem Safe.next {L:Nat} {no no2:Option Nat} {a b:World} {T:World→Prop} (h:Safe L no a T) (k:Keep L no a b) (hn:∀ q,L≤q→no2=some q→no=some q∨a.heap.size≤q):Safe L no2 b T:=fun c hc=>h c (k.step hc hn)
theorem Safe.wide {L L':Nat} {no:Option Nat} {a:World} {T:World→Prop} (h:Safe L' no a T) (hL:L≤L'):Safe L no a T:=fun c hc=>h c (hc.wide hL)
theorem Safe.mono {L:Nat} {no:Option Nat} {a:World} {T T':World→Prop} (h:Safe L no a T) (ht:∀ b,T b→T' b):Safe L no a T':=fun c hc=>ht c (h c hc)
theorem own_keep {a c:World} {base sz n L:Nat} {t:TypeId} {v:Value} {xs:List Value} (h:a.ownsRow base t sz v n xs) (hk:Keep L none a c) (hL:L≤base):c.ownsRow base t sz v n xs:=by
 refine ⟨h.1,?_⟩
 rcases h.2 with hn | ⟨g,cap,cur,rfl,h1,h2,rest⟩
 ·exact .inl hn
 ·exact .inr ⟨g,cap,cur,rfl,h1,(hk.2 g (by omega) (Array.getElem?_eq_some_iff.1 h2).1 (by simp)).trans h2,rest⟩
theorem own_slice {a:World} {base sz n:Nat} {t:TypeId} {v:Value} {xs:List Value} (h:a.ownsRow base t sz v n xs):∃ ad c,v=.slice ad n c:=by
 rcases h.2 with ⟨rfl,rfl⟩ | ⟨g,cap,cur,rfl,_⟩
 ·exact ⟨none,0,rfl⟩
 ·exact ⟨_,cap,rfl⟩
theorem FieldsAt_of' {w:World} {B N b:Nat} (hb:b<B):∀ (l:List (ByteArray×ValD)) (o:Nat),(∀ i (hi:i<l.length),∃ cs,l[i].1.size≤N∧CellsAt w b (o+i * 14) (.string l[i].1::cs)∧ValD.At w B N l[i].2 cs)→FieldsAt w B N l (some ⟨b,o,none⟩)
 | [],_,_=>trivial
 | (k,v)::r,o,h=>by
   obtain ⟨cs,h0,h1,h2⟩:=h 0 (by simp)
   refine ⟨⟨b,o,cs,rfl,hb,h0,by simpa using h1,h2⟩,?_⟩
   refine FieldsAt_of' hb r (o+14) fun i hi=>?_
   obtain ⟨cs,h0,h1,h2⟩:=h (i+1) (by simpa using hi)
   exact ⟨cs,h0,by rw [show o+14+i * 14=o+(i+1) * 14 by omega];exact h1,h2⟩
theorem drop_take_append14 {xs ys:List Value} {n i:Nat} (hx:xs.length=n * 14) (hy:ys.length=14) (hi:i<n+1) :
 ((xs++ys).drop (i * 14)).take 14=if i<n then (xs.drop (i * 14)).take 14 else ys:=by
 split
 ·rename_i h
  have h1:i * 14+14≤xs.length:=by
   have:=Nat.mul_le_mul_right 14 (show i+1≤n by omega)
   omega
  rw [List.drop_append_of_le_length (by omega),List.take_append_of_le_length (by simp;omega)]
 ·rename_i h
  obtain rfl:i=n:=by omega
  rw [← hx,List.drop_left,List.take_of_length_le (by omega)]
def ClnR (l:List Int) (w:World) (e:Ending) (w':World):Prop:=∃ (ad:Option Addr) (cp:Nat),e=.returned (.slice ad l.length cp)∧Safe w.heap.size none w' (fun c=>BytesAt c c.heap.size l ad)∧Below w.heap.size w w'
theorem bytes_safe {a:World} {base L n:Nat} {t:TypeId} {s:Value} {l:List Int} (h:a.ownsRow base t 1 s n (l.map (Value.int .u8))) (hn:l.length=n) (hL:L≤base) (hr:∀ x∈l,0≤x∧x≤255) :
 ∃ ad cp,s=.slice ad l.length cp∧Safe L none a (fun c=>BytesAt c c.heap.size l ad):=by
 obtain ⟨ad,cp,rfl⟩:=own_slice h
 refine ⟨ad,cp,by rw [hn],fun c hk=>?_⟩
 have hc:=own_keep h hk hL
 rcases Nat.eq_zero_or_pos l.length with hz | hp
 ·exact .inl (List.length_eq_zero_iff.1 hz)
 ·rcases hc.2 with ⟨e,e2⟩ | ⟨g,cap,cur,e,hg,hh,_,_,hcs,htake⟩
  ·omega
  ·simp only [Value.slice.injEq] at e
   obtain ⟨rfl,_,rfl⟩:=e
   refine .inr ⟨g,0,rfl,(Array.getElem?_eq_some_iff.1 hh).1,fun j hj=>?_,hr⟩
   have hj':j<n * 1:=by simp at hj;omega
   have e:c.cell? ⟨g,0+j,none⟩=cur[0+j]?:=by simp [World.cell?,hh]
   rw [e,← htake,List.getElem?_take,if_pos hj',Nat.zero_add]
   simp
end Go.Proofs.YtniljgkkcnekgaaGreatDoor

/- slices.Clone of bytes. -/
namespace Go.Proofs.YtniljgkkcnekgaaGreatDoor
open Go.RowKit
theorem ownBytes_map {w:World} {B n:Nat} {v:Value} {l:List Int} (h:w.ownsRow B 5 1 v n ([]++l.map (Value.int .u8))):w.ownsRow B 5 1 v n (l.map (Value.int .u8)):=by simpa using h
set_option maxRecDepth 100000 in
theorem clone_ex (l:List Int) (ya:Option Addr) (yc B:Nat) (w:World) (hl:l.length≤4294967296) (hB:B≤w.heap.size) (hb:BytesAt w B l ya) :
 Calls Tryz.prog 142 #[.slice ya l.length yc] w (ClnR l w):=by
 obtain ⟨i0,hi,hz0,hz1,hz2⟩:=info_parts infoU8
 have HI:=Hd hi
 have HZ0:=Hd hz0
 have HZ1:=Hd hz1
 have HZ2:=Hd hz2
 clear hi hz0 hz1 hz2
 have q26:∀ (w:World) (a:Option Addr) (n c n' c':Nat),(binOp .eql 35 (.slice a n c) (.slice none n' c')).run Tryz.prog w=.ok (.bool a.isNone) w:=fun w a n c n' c'=>Lib.run_eql_slice_nil w _ _ a n c n' c' Tryz.underlying35
 cases ya with
 | none =>
   have h0:l=[]:=by
    rcases hb with h | ⟨b,o,h,_⟩
    ·exact h
    ·cases h
   subst h0
   clear hb
   go_enter Tryz.func142,Tryz.ntmps142
   go_wp2_with fail
   go_ret
   exact ⟨none,0,rfl,fun c _=>.inl rfl,Below.refl _ _⟩
 | some ad =>
   have hn:∀ w':World,Below w.heap.size w w'→∀ j u,(l.map (Value.int .u8))[j]?=some u→w'.cell? (ad.add j)=some u:=by
    intro w' hw j u hu
    rcases hb with h | ⟨b,o,h,hlt,hc,_⟩
    ·subst h;simp at hu
    ·cases h
     have hj:j<(l.map (Value.int .u8)).length:=by
      rcases Nat.lt_or_ge j (l.map (Value.int .u8)).length with h | h
      ·exact h
      ·rw [List.getElem?_eq_none h] at hu;cases hu
     rw [Addr.add_mid,hw.cell (Nat.lt_of_lt_of_le hlt hB),hc j hj,hu]
   have HN:=Hd hn
   have HR:=Hd (show ∀ x∈l,0≤x∧x≤255 by
    rcases hb with h | ⟨b,o,h,hlt,hc,hr⟩
    ·subst h;simp
    ·exact hr)
   clear hn hb
   go_enter Tryz.func142,Tryz.ntmps142
   go_wp2_with (at_builtin;refine wpList_append_own _ rfl _ _ 35 rfl w.heap.size 5 i0 (.int .u8 0) 1 1 Tryz.underlying35 HI.out HZ0.out HZ1.out HZ2.out rfl (by decide) _ _ _ rfl (World.ownsRow_made w #[] 0 (Nat.le_refl _) (Nat.zero_le _) rfl) ad l.length yc (l.map (Value.int .u8)) rfl ?qc1 ?qc2 ?qc3 ?qc4 ?qc5 ?qc6 ?_)
   case qc1=>simp
   case qc2=>exact HN.out _ (belowBox w _)
   case qc3=>intro u hu;obtain ⟨x,_,rfl⟩:=List.mem_map.1 hu;rfl
   case qc4=>unfold maxLen;omega
   case qc5=>omega
   case qc6=>simp
   intro v' w1 hown hgrow _
   have HO:=Hd (bytes_safe (l:=l) (ownBytes_map (B:=w.heap.size) (n:=l.length) (by simpa using hown)) rfl (Nat.le_refl _) HR.out)
   have HB:=Hd (show Below w.heap.size w w1 from (belowBox w _).grown hgrow (by simp) (by intro k hk;simp [Value.ownBlock] at hk;omega))
   clear hown hgrow
   go_wp2
   go_ret
   obtain ⟨a1,c1,e1,h1⟩:=HO.out
   exact ⟨a1,c1,by rw [← e1];rfl,h1,HB.out⟩
end Go.Proofs.YtniljgkkcnekgaaGreatDoor

/- The reference's Small (datakitref07): where it says yes, the value is no deeper than so much. -/
namespace Go.Proofs.YtniljgkkcnekgaaGreatDoor
open Go.RowKit
def fitsV:Nat→ValD→Prop
 | 0,_=>False
 | d+1,v=>(∀ x∈v.list,fitsV d x)∧(∀ f∈v.fields,fitsV d f.2)
def RoomR (n:Nat) (v:ValD) (w:World) (e:Ending) (w':World):Prop:=∃ (k:Int),e=.returned (.int .i64 k)∧(0≤k→fitsV n v)∧-1≤k∧k≤1000∧Below w.heap.size w w'
set_option maxRecDepth 100000 in
set_option maxHeartbeats 3200000 in
theorem room_ex (n:Nat):∀ (w:World) (B N:Nat) (v:ValD) (cs:List Value) (left:Int),n≤60→0≤left→left≤1000→N≤1099511627776→B≤w.heap.size→ValD.At w B N v cs →
 Calls Tryz.prog 24 #[.agg cs.toArray,.int .i64 left,.int .i64 n] w (RoomR n v w):=by
 induction n with
 | zero =>
   intro w B N v cs left hn hlf hlu hN hB hv
   clear hv
   go_enter Tryz.func24,Tryz.ntmps24
   go_wp2_with fail
   go_ret
   exact ⟨_,rfl,fun h=>absurd h (by decide),by omega,by omega,belowBox w _⟩
 | succ n ih =>
   intro w B N v cs left hn hlf hlu hN hB hv
   obtain ⟨ya,la,va,yc,lc,vc,hh⟩:=hv.has
   have hll:v.list.length≤N:=hh.own.2.2.2.2.2.2.2.2.2.1
   have hfl:v.fields.length≤N:=hh.own.2.2.2.2.2.2.2.2.2.2
   have c11:=hh.list
   have c12:=hh.fields
   have HH:=Hd hh
   have IH:=Hd ih
   clear hv hh ih
   by_cases hbig:left-1<v.list.length∨left-1<v.fields.length
   ·have hb2:left-1<v.list.length∨(¬ left-1<v.list.length∧left-1<v.fields.length):=by omega
    clear hbig
    rcases hb2 with h1 | ⟨h1,h2⟩
    all_goals
     go_enter Tryz.func24,Tryz.ntmps24
     go_wp2_with fail
     go_ret
     exact ⟨_,rfl,fun h=>absurd h (by decide),by omega,by omega,belowBox w _⟩
   have hb1:¬ left-1<v.list.length:=by omega
   have hb2:¬ left-1<v.fields.length:=by omega
   have hl0:0≤left-1:=by omega
   clear hbig
   go_enter Tryz.func24,Tryz.ntmps24
   go_wp2_with fail
   go_simp
   go_loopw [1,7] (fun l i wr=>∃ (x:Int) (k:Nat),k≤v.list.length∧-1≤x∧x≤1000∧l=.int .i64 x∧i=.int .i64 k∧Hid (0≤x→∀ j (h:j<v.list.length),j<k→fitsV n v.list[j])∧wr.cell? ⟨w.heap.size,11,none⟩=some (.slice la v.list.length lc)∧wr.cell? ⟨w.heap.size,12,none⟩=some (.slice va v.fields.length vc)∧w.heap.size<wr.heap.size∧Below w.heap.size w wr)
    (fun _ i _=>v.list.length-(intOf i).toNat)
   case atStart=>exact ⟨_,0,by omega,by omega,by omega,rfl,rfl,Hd (fun _ j _ hj=>absurd hj (by omega)),by go_simp,by go_simp,by simp,belowBox w _⟩
   case round =>
    obtain ⟨w1,rfl⟩:∃ w1,w1=wr:=⟨wr,rfl⟩
    obtain ⟨x,k,hk,hxl,hxu,rfl,rfl,hfit,hc11,hc12,hsz,hbel⟩:=hrel
    have HB:=Hd hbel
    clear hbel
    by_cases hgo:k<v.list.length∧0≤x
    ·obtain ⟨hlt,hx⟩:=hgo
     obtain ⟨b,o,rfl,hb,hget⟩:=HH.out.atList.get (by intro h;simp [h] at hlt)
     obtain ⟨cs1,h1,h2⟩:=hget k hlt
     have HR:=Hd (h1.below (HB.out.mono hB) hb).range
     have H4:=Hd (h2.below (HB.out.mono hB))
     have hl:=Hd (show (Tryz.prog.info? 39).map (·.size)=some cs1.length by rw [h2.len];exact sizeV)
     clear h1 h2 hget
     go_wp2_with (refine wpList_load_mid rfl 39 _ rfl b (o+k * 13) rfl cs1 _ HR.out Tryz.underlying39 rfl hl.out ?_)
     refine (IH.out _ B N _ _ x (by omega) hx hxu hN (Nat.le_trans hB HB.out.size) H4.out).mono ?_
     rintro e1 w2 ⟨y,rfl,hy,hyl,hyu,hb1'⟩
     have d11:=(hb1'.cell (p:=⟨w.heap.size,11,none⟩) hsz).trans hc11
     have d12:=(hb1'.cell (p:=⟨w.heap.size,12,none⟩) hsz).trans hc12
     have hs1:w.heap.size<w2.heap.size:=Nat.lt_of_lt_of_le hsz hb1'.size
     have HB1:=Hd (HB.out.trans (hb1'.mono HB.out.size))
     have HF:=Hd (show 0≤y→∀ j (h:j<v.list.length),j<k+1→fitsV n v.list[j] from fun h j hj hj2=>by
      by_cases e:j=k
      ·subst e;exact hy h
      ·exact hfit.out hx j hj (by omega))
     clear hb1' hc11 hc12 hsz hy hfit
     go_wp2_with fail
     go_roundw
     case rel=>exact ⟨y,k+1,by omega,hyl,hyu,rfl,by go_num,HF,d11,d12,hs1,HB1.out⟩
     case measure=>simp [intOf];omega
    ·have hgo':¬ k<v.list.length∨(k<v.list.length∧¬ 0≤x):=by omega
     have HFL:=Hd (show 0≤x→∀ y∈v.list,fitsV n y from fun h y hy=>by
      obtain ⟨j,hj,rfl⟩:=List.getElem_of_mem hy
      exact hfit.out h j hj (by omega))
     clear hgo hfit
     rcases hgo' with hgo | ⟨hg1,hg2⟩
     all_goals
      go_wp2_with fail
      go_simp
      go_loopw [1,8] (fun l i wr=>∃ (x2:Int) (k:Nat),k≤v.fields.length∧-1≤x2∧x2≤1000∧l=.int .i64 x2∧i=.int .i64 k∧Hid (0≤x2→0≤x∧∀ j (h:j<v.fields.length),j<k→fitsV n v.fields[j].2)∧wr.cell? ⟨w.heap.size,12,none⟩=some (.slice va v.fields.length vc)∧w.heap.size<wr.heap.size∧Below w.heap.size w wr)
       (fun _ i _=>v.fields.length-(intOf i).toNat)
      case atStart=>exact ⟨_,0,by omega,hxl,hxu,rfl,rfl,Hd (fun h=>⟨h,fun j _ hj=>absurd hj (by omega)⟩),hc12,hsz,HB.out⟩
      case round =>
       obtain ⟨w3,rfl⟩:∃ w3,w3=wr:=⟨wr,rfl⟩
       clear HB hc11 hc12 hsz
       obtain ⟨x2,k2,hk2,hxl2,hxu2,rfl,rfl,hfit2,hc12,hsz,hbel⟩:=hrel
       have HB:=Hd hbel
       clear hbel
       by_cases hgo2:k2<v.fields.length∧0≤x2
       ·obtain ⟨hlt2,hx2⟩:=hgo2
        obtain ⟨b,o,rfl,hb,hget⟩:=HH.out.atFields.get (by intro h;simp [h] at hlt2)
        obtain ⟨cs1,_,h1,h2⟩:=hget k2 hlt2
        have HR:=Hd (h1.tail.below (HB.out.mono hB) hb).range
        have H4:=Hd (h2.below (HB.out.mono hB))
        have hl:=Hd (show (Tryz.prog.info? 39).map (·.size)=some cs1.length by rw [h2.len];exact sizeV)
        clear h1 h2 hget
        go_wp2_with (refine wpList_load_mid rfl 39 _ rfl b (o+k2 * 14+1) rfl cs1 _ HR.out Tryz.underlying39 rfl hl.out ?_)
        refine (IH.out _ B N _ _ x2 (by omega) hx2 hxu2 hN (Nat.le_trans hB HB.out.size) H4.out).mono ?_
        rintro e1 w4 ⟨y,rfl,hy,hyl,hyu,hb1'⟩
        have d12:=(hb1'.cell (p:=⟨w.heap.size,12,none⟩) hsz).trans hc12
        have hs1:w.heap.size<w4.heap.size:=Nat.lt_of_lt_of_le hsz hb1'.size
        have HB1:=Hd (HB.out.trans (hb1'.mono HB.out.size))
        have HF:=Hd (show 0≤y→0≤x∧∀ j (h:j<v.fields.length),j<k2+1→fitsV n v.fields[j].2 from fun h=>⟨(hfit2.out hx2).1,fun j hj hj2=>by
         by_cases e:j=k2
         ·subst e;exact hy h
         ·exact (hfit2.out hx2).2 j hj (by omega)⟩)
        clear hb1' hc12 hsz hy hfit2
        go_wp2_with fail
        go_roundw
        case rel=>exact ⟨y,k2+1,by omega,hyl,hyu,rfl,by go_num,HF,d12,hs1,HB1.out⟩
        case measure=>simp [intOf];omega
       ·have hgo':¬ k2<v.fields.length∨(k2<v.fields.length∧¬ 0≤x2):=by omega
        have HD:=Hd (show 0≤x2→fitsV (n+1) v from fun h=>⟨HFL.out (hfit2.out h).1,fun f hf=>by
         obtain ⟨j,hj,rfl⟩:=List.getElem_of_mem hf
         exact (hfit2.out h).2 j hj (by omega)⟩)
        clear hgo2 hfit2
        rcases hgo' with hgo3 | ⟨hg3,hg4⟩
        all_goals
         go_wp2_with fail
         go_ret
         exact ⟨_,rfl,HD.out,hxl2,hxu2,HB.out⟩
def SmallR (n:Nat) (v:ValD) (w:World) (e:Ending) (w':World):Prop:=∃ b,e=.returned (.bool b)∧(b=true→fitsV n v)∧Below w.heap.size w w'
end Go.Proofs.YtniljgkkcnekgaaGreatDoor

/- value.copied: the same value in new cells. -/
namespace Go.Proofs.YtniljgkkcnekgaaGreatDoor
open Go.RowKit
theorem wpList_store_new {P:Program} {ops:Array Oper} {rest:List Oper} {op:Oper} {a:Act} {w:World} {Q:Exit→Act→World→Prop} (hgd:op.guard=none) (ty:TypeId) (x y:Operand) (ho:op.op=.store ty x y)
 (c c':Array Value) (hx:a.eval x=.pointer (some ⟨w.heap.size,0,none⟩)) (hy:a.eval y=.agg c')
 (hi:(P.info? ty).map (·.size)=some c'.size) (hc:c.size=c'.size) (h1:c'.all (·.oneCell')=true)
 (h:wpList P ops Q rest (a.put op.dst undef) (w.alloc (.cells c' ty))):wpList P ops Q (op::rest) a (w.alloc (.cells c ty)) :=
 wpList_plain hgd fun _ hK=>by
  unfold Oper.wp execOp
  simp only [ho,hx,hy,Instr.storeAt,Instr.sureAddr,Sem.run_bind,Sem.run_pure,Result.andThen_ok,run_storeVar_new w ty c c' hi hc h1]
  exact hK _ _ h
theorem infoF:∃ z:Array Value,z.size=14∧(Tryz.prog.info? 76).map (fun i=>(i.zero,i.size,i.bytes))=some (some (.agg z),14,184) :=
 ⟨#[.string ⟨#[]⟩,.int .i64 0,.bool false,.bool false,.string ⟨#[]⟩,.int .i64 0,.int .i64 0,.int .i64 0,.int .i64 0,.int .i64 0,.string ⟨#[]⟩,.slice none 0 0,.slice none 0 0,.slice none 0 0],rfl,by kernel_rfl⟩
theorem sizeF:(Tryz.prog.info? 76).map (·.size)=some 14:=by kernel_rfl
def zeroV:Array Value:=#[.int .i64 0,.bool false,.bool false,.string ⟨#[]⟩,.int .i64 0,.int .i64 0,.int .i64 0,.int .i64 0,.int .i64 0,.string ⟨#[]⟩,.slice none 0 0,.slice none 0 0,.slice none 0 0]
def zeroF:Array Value:=#[.string ⟨#[]⟩,.int .i64 0,.bool false,.bool false,.string ⟨#[]⟩,.int .i64 0,.int .i64 0,.int .i64 0,.int .i64 0,.int .i64 0,.string ⟨#[]⟩,.slice none 0 0,.slice none 0 0,.slice none 0 0]
theorem fold_zip_up:∀ (cs:List Value) (n:Nat) (Z:Array Value),List.foldl (fun (a:Array Value) (x:Value×Nat)=>a.setIfInBounds (1+x.2) x.1) Z (cs.zipIdx n)=List.foldl (fun (a:Array Value) (x:Value×Nat)=>a.setIfInBounds x.2 x.1) Z (cs.zipIdx (n+1))
 | [],_,_=>rfl
 | c::cs,n,Z=>by
   rw [List.zipIdx_cons,List.zipIdx_cons,List.foldl_cons,List.foldl_cons,fold_zip_up cs (n+1)]
   rw [show 1+(c,n).2=(c,n+1).2 from Nat.add_comm 1 n]
theorem fold_zip1 (ky:ByteArray) (cs:List Value) (h:cs.length=13):List.foldl (fun (a:Array Value) (x:Value×Nat)=>a.setIfInBounds (1+x.2) x.1) #[.string ky,.int .i64 0,.bool false,.bool false,.string ⟨#[]⟩,.int .i64 0,.int .i64 0,.int .i64 0,.int .i64 0,.int .i64 0,.string ⟨#[]⟩,.slice none 0 0,.slice none 0 0,.slice none 0 0] cs.zipIdx=(.string ky::cs).toArray:=by
 rw [fold_zip_up,fold_zip cs 1 _ (by rw [h];rfl)]
 rfl
theorem fold_zip2 (ky:ByteArray) (cs:List Value) (h:cs.length=13):List.foldl (fun (a:Array Value) (x:Value×Nat)=>a.setIfInBounds x.2 x.1) #[.string ky,.int .i64 0,.bool false,.bool false,.string ⟨#[]⟩,.int .i64 0,.int .i64 0,.int .i64 0,.int .i64 0,.int .i64 0,.string ⟨#[]⟩,.slice none 0 0,.slice none 0 0,.slice none 0 0] (cs.zipIdx 1)=(.string ky::cs).toArray:=by
 rw [fold_zip cs 1 _ (by rw [h];rfl)]
 rfl
theorem row_one (v:ValD) (ya la va:Option Addr) (yc lc vc:Nat):(v.row ya la va yc lc vc).toArray.all (·.oneCell')=true:=Go.all_oneCell_toArray (fun u hu=>by
 simp [ValD.row] at hu
 rcases hu with rfl | rfl | rfl | rfl | rfl | rfl | rfl | rfl | rfl | rfl | rfl | rfl | rfl<;>rfl)
theorem row_set1112 (v:ValD) (ya la va lb fb:Option Addr) (yc lc vc ld fd:Nat):((v.row ya la va yc lc vc).toArray.setIfInBounds 11 (.slice lb v.list.length ld)).setIfInBounds 12 (.slice fb v.fields.length fd)=(v.row ya lb fb yc ld fd).toArray:=rfl
def RowAt (w:World) (b:Nat) (cs:List Value):Prop:=w.heap[b]?=some (.cells cs.toArray 39 (0,0))
theorem RowAt.cell {w:World} {b j:Nat} {cs:List Value} {v:Value} (h:RowAt w b cs) (hv:cs[j]?=some v):w.cell? ⟨b,j,none⟩=some v:=by
 rw [cell_of_row w b j _ _ _ h];simpa using hv
theorem RowAt.frozen {w:World} {b:Nat} {cs:List Value} (h:RowAt w b cs) (j:Nat):w.frozen? ⟨b,j,none⟩=false:=frozen_of_row w b j _ _ h
theorem RowAt.below {w w':World} {B b:Nat} {cs:List Value} (h:RowAt w b cs) (hb:Below B w w') (hlt:b<B):RowAt w' b cs:=(hb.block b hlt).trans h
theorem RowAt.range {w:World} {b:Nat} {cs:List Value} (h:RowAt w b cs):w.rangeAt b 0 cs:=fun j v hv=>by rw [Nat.zero_add];exact h.cell hv
theorem RowAt.grown {w w':World} {b:Nat} {row:Option Nat} {cs:List Value} (h:RowAt w b cs) (hg:w.grownBy w' row) (hlt:b<w.heap.size) (hne:some b≠row):RowAt w' b cs:=(hg.block b hlt hne).trans h
theorem RowAt.alloc {w:World} {b:Nat} {cs:List Value} (h:RowAt w b cs) (hlt:b<w.heap.size) (o:Obj):RowAt (w.alloc o) b cs:=(heap_alloc_old w o hlt).trans h
theorem own_below' {w w':World} {B n sz:Nat} {t:TypeId} {v:Value} {xs:List Value} (h:w.ownsRow B t sz v n xs) (hb:Below w.heap.size w w'):w'.ownsRow B t sz v n xs:=by
 refine ⟨h.1,?_⟩
 rcases h.2 with hn | ⟨g,cap,cur,rfl,h1,h2,rest⟩
 ·exact .inl hn
 ·exact .inr ⟨g,cap,cur,rfl,h1,(hb.block g (Array.getElem?_eq_some_iff.1 h2).1).trans h2,rest⟩
theorem belowThen' {a b c:World} {L:Nat} (h:Below a.heap.size a b) (k:Below L b c) (hL:a.heap.size≤L:=by omega):Below a.heap.size a c:=h.trans (k.mono hL)
theorem step_facts {L:Nat} {wr w2 w3:World} {o o2:Obj} {s:Value} {g:Nat} (hL:L≤wr.heap.size) (hs:∀ q,s.ownBlock=some q→L≤q∧q<wr.heap.size)
 (hb2:Below (wr.alloc o).heap.size (wr.alloc o) w2) (hgrow:(w2.alloc o2).grownBy w3 s.ownBlock) (hlie:s.ownBlock=some g∨g=(w2.alloc o2).heap.size) :
 (Keep L s.ownBlock wr w3∧(∀ q,L≤q→some g=some q→s.ownBlock=some q∨wr.heap.size≤q))∧(Keep (wr.alloc o).heap.size none w2 w3∧(∀ q,(wr.alloc o).heap.size≤q→some g=some q→(none:Option Nat)=some q∨w2.heap.size≤q))∧Below L wr w3:=by
 have hsz:(wr.alloc o).heap.size=wr.heap.size+1:=World.size_alloc _ _
 have hsz2:(w2.alloc o2).heap.size=w2.heap.size+1:=World.size_alloc _ _
 have h2:=hb2.size
 have hbw:Below wr.heap.size wr w2:=belowThen (belowBox wr o) hb2
 refine ⟨⟨?_,?_⟩,⟨?_,?_⟩,?_⟩
 ·refine ((keep_below hbw (Nat.le_refl _)).step (keep_below (belowBox w2 o2) (Nat.le_refl _)) (fun q _ h=>.inl h)).step (keep_grown hgrow) (fun q _ h=>.inl h)
 ·rintro q _ e
  cases e
  rcases hlie with h | h
  ·exact .inl h
  ·exact .inr (by omega)
 ·refine (keep_below (belowBox w2 o2) (Nat.le_refl _)).step (keep_grown_far hgrow (fun q h=>?_)) (fun q _ h=>.inl h)
  have:=(hs q h).2
  omega
 ·rintro q hq e
  cases e
  rcases hlie with h | h
  ·have:=(hs _ h).2
   omega
  ·exact .inr (by omega)
 ·refine ((hbw.mono hL).alloc (by omega) o2).grown hgrow (by omega) (fun q h=>(hs q h).1)
end Go.Proofs.YtniljgkkcnekgaaGreatDoor

/- Rows of any type that may be written: one cell, a part, all of it. -/
namespace Go.Proofs.YtniljgkkcnekgaaGreatDoor
open Go.RowKit
theorem drewU (w:World):Below w.heap.size w w.drew:=⟨rfl,rfl,rfl,Nat.le_refl _,fun _ _=>rfl⟩
theorem wpAnyH_takeU {P:Program} {ops:Array Oper} {Q:Exit→Act→World→Prop} {md:Region.Mode} {S:World→Prop} {i:Nat} {oi:Oper} {v:Value} {fuel:Nat} {listed:Array Bool} {l:List Value} {df:List Deferred} {w:World} (t:Nat) (hi:ops[i]?=some oi) (hd:oi.dst=some t)
 (hs:Region.noSelect ops=true) (hf:Region.free md ops listed i=true) (hr:(Region.ready md ops listed).contains i=true)
 (hQ:∀ c a w,Q (.panic c) (a.put oi.dst v) w→Q (.panic c) a w) (hy:YieldsIf P ops S oi v ⟨l.toArray,df⟩) (hS:S w)
 (h:wpAnyH P md ops Q S fuel (listed.setIfInBounds i true) ⟨(l.set t v).toArray,df⟩ w):wpAnyH P md ops Q S (fuel+1) listed ⟨l.toArray,df⟩ w:=by
 refine wpAnyH_take hi hs hf hr hQ hy hS ?_
 have e:Act.put (⟨l.toArray,df⟩:Act) oi.dst v=⟨(l.set t v).toArray,df⟩:=by
  rw [hd]
  simp [Act.put]
 rw [e]
 exact h
def RowT (t:TypeId) (w:World) (b:Nat) (cs:List Value):Prop:=w.heap[b]?=some (.cells cs.toArray t (0,0))
theorem RowT.cell {t:TypeId} {w:World} {b j:Nat} {cs:List Value} {v:Value} (h:RowT t w b cs) (hv:cs[j]?=some v):w.cell? ⟨b,j,none⟩=some v:=by
 rw [cell_of_row w b j _ _ _ h];simpa using hv
theorem RowT.frozen {t:TypeId} {w:World} {b:Nat} {cs:List Value} (h:RowT t w b cs) (j:Nat):w.frozen? ⟨b,j,none⟩=false:=frozen_of_row w b j _ _ h
theorem RowT.lt {t:TypeId} {w:World} {b:Nat} {cs:List Value} (h:RowT t w b cs):b<w.heap.size:=(Array.getElem?_eq_some_iff.1 h).1
theorem RowT.below {t:TypeId} {w w':World} {B b:Nat} {cs:List Value} (h:RowT t w b cs) (hb:Below B w w') (hlt:b<B):RowT t w' b cs:=(hb.block b hlt).trans h
theorem RowT.then {t:TypeId} {w w':World} {b:Nat} {cs:List Value} (h:RowT t w b cs) (hb:Below w.heap.size w w'):RowT t w' b cs:=h.below hb h.lt
theorem RowT.cells {t:TypeId} {w:World} {b:Nat} {cs:List Value} (h:RowT t w b cs):CellsAt w b 0 cs:=fun j hj=>by
 rw [Nat.zero_add,cell_of_row w b j _ _ _ h]
 simp
theorem RowT.range {t:TypeId} {w:World} {b:Nat} {cs:List Value} (h:RowT t w b cs):w.rangeAt b 0 cs:=h.cells.range
theorem RowT.alloc {t:TypeId} {w:World} {b:Nat} {cs:List Value} (h:RowT t w b cs) (o:Obj):RowT t (w.alloc o) b cs:=(heap_alloc_old w o h.lt).trans h
theorem RowT.new (w:World) (t:TypeId) (cs:List Value):RowT t (w.alloc (.cells cs.toArray t)) w.heap.size cs:=heap_alloc_new w _
theorem RowT.drew {t:TypeId} {w:World} {b:Nat} {cs:List Value} (h:RowT t w b cs):RowT t w.drew b cs:=h
theorem RowT.set {t:TypeId} {w:World} {b:Nat} {cs:List Value} (h:RowT t w b cs) (j:Nat) (v:Value):RowT t (w.setCell ⟨b,j,none⟩ v) b (cs.set j v):=by
 unfold RowT
 rw [heap_setCell_same w b j _ _ _ h,List.setIfInBounds_toArray]
theorem RowT.setOther {t:TypeId} {w:World} {b b':Nat} {cs:List Value} (h:RowT t w b cs) (hne:b≠b') (j:Nat) (v:Value):RowT t (w.setCell ⟨b',j,none⟩ v) b cs:=by
 unfold RowT
 rw [heap_setCell_other _ _ _ _ (by simpa using hne)]
 exact h
theorem RowT.setRow {t:TypeId} {w:World} {b:Nat} {cs:List Value} (h:RowT t w b cs) (new:List Value):RowT t (w.setRow b new.toArray) b new:=setRow_heap w b _ _ t _ h
theorem RowT.setRowOther {t:TypeId} {w:World} {b b':Nat} {cs:List Value} (h:RowT t w b cs) (hne:b≠b') (new:Array Value):RowT t (w.setRow b' new) b cs:=(setRow_other w b' b new hne).trans h
theorem cellsOfRange {w:World} {b o:Nat} {cs:List Value} (h:w.rangeAt b o cs):CellsAt w b o cs:=fun j hj=>by rw [List.getElem?_eq_getElem hj];exact h j _ (List.getElem?_eq_getElem hj)
theorem below_set {B b j:Nat} {w0 w:World} (h:Below B w0 w) (hb:B≤b) (v:Value):Below B w0 (w.setCell ⟨b,j,none⟩ v):=h.setCell hb _
theorem wp_store_at {P:Program} {o:Oper} {a:Act} {w:World} {K:Act→World→Prop} {Q:Exit→Act→World→Prop} (ty:TypeId) (x y:Operand) (ho:o.op=.store ty x y)
 (g q:Nat) (cells:List Value) (hx:a.eval x=.pointer (some ⟨g,q,none⟩)) (hy:a.eval y=.agg cells.toArray)
 (t:TypeId) (old new:List Value) (hg:RowT t w g old) (hi:(P.info? ty).map (·.size)=some cells.length)
 (hn:new=old.take q++cells++old.drop (q+cells.length)) (hfit:q+cells.length≤old.length) (h1:∀ v∈cells,v.oneCell'=true)
 (h:K (a.put o.dst undef) (w.setRow g new.toArray)):o.wp P a w K Q:=by
 have hst:=run_storeCells_at P g q t cells 0 old.toArray w hg (by simpa using hfit) h1
 have hrun:(storeVar ty ⟨g,q,none⟩ (.agg cells.toArray)).run P w=.ok () (w.setRow g new.toArray):=by
  cases hq:P.info? ty with
  | none=>simp [hq] at hi
  | some i =>
    have hs:cells.length=i.size:=by simp [hq] at hi;omega
    simp [storeVar,sizeOf,typeInfo,hq,Value.cells,hs,hn]
    simpa [hs] using hst
 unfold Oper.wp execOp
 simp only [ho,hx,hy,Instr.storeAt,Instr.sureAddr,Sem.run_bind,Sem.run_pure,Result.andThen_ok,hrun]
 exact h
end Go.Proofs.YtniljgkkcnekgaaGreatDoor

/- A region that draws its order and whose last operation writes what an early one has read: the condition on the world need not hold behind that last one. -/
namespace Go.Proofs.YtniljgkkcnekgaaGreatDoor
open Go.RowKit
section
variable {P:Program} {ops:Array Oper} {Q:Exit→Act→World→Prop} {md:Region.Mode} {S:World→Prop} {t:Nat}
def wpAnyT (P:Program) (md:Region.Mode) (ops:Array Oper) (Q:Exit→Act→World→Prop) (S:World→Prop) (t:Nat):Nat→Array Bool→Act→World→Prop
 | 0,listed,a,w=>Region.ready md ops listed=[]∧Q .normal a w
 | fuel+1,listed,a,w =>
   (Region.ready md ops listed=[]→Q .normal a w) ∧
   ∀ i∈Region.ready md ops listed,wpOp P ops Q i (fun a' w'=>(i≠t→S w')∧wpAnyT P md ops Q S t fuel (listed.setIfInBounds i true) a' w') a w
theorem wpAny_of_T:∀ (fuel:Nat) (listed:Array Bool) (a:Act) (w:World),wpAnyT P md ops Q S t fuel listed a w→wpAny P md ops Q fuel listed a w
 | 0,_,_,_,h=>h
 | fuel+1,_,_,_,h=>⟨h.1,fun i hi=>wpOp_mono (fun a' w' h'=>wpAny_of_T fuel _ a' w' h'.2) (h.2 i hi)⟩
def waitsB (md:Region.Mode) (ops:Array Oper):List Nat→Bool
 | a::b::r=>((ops[a]?).map (fun o=>o.after.any fun e=>Region.binds md e&&e.on==b)).getD false&&waitsB md ops (b::r)
 | _=>true
def freshB (listed:Array Bool) (path:List Nat):Bool:=path.all fun x=>!(listed.getD x true)
theorem waits_not {listed:Array Bool} {j i:Nat} (hj:j∈Region.ready md ops listed):∀ (path:List Nat),waitsB md ops (path++[i])=true→(∀ x∈path++[i],listed.getD x true=false)→j ∉ path
 | [],_,_=>by simp
 | a::r,hw,hf=>by
   obtain ⟨b,r',hr⟩:∃ b r',r++[i]=b::r':=by
    cases r with
    | nil=>exact ⟨i,[],rfl⟩
    | cons x y=>exact ⟨x,y++[i],rfl⟩
   rw [List.cons_append,hr] at hw hf
   simp only [waitsB,Bool.and_eq_true] at hw
   obtain ⟨h1,h2⟩:=hw
   rw [← hr] at h2
   have ih:=waits_not hj r h2 (fun x hx=>hf x (List.mem_cons_of_mem _ (by rw [← hr];exact hx)))
   rw [List.mem_cons,not_or]
   refine ⟨fun e=>?_,ih⟩
   subst e
   obtain ⟨_,oj,hoj,hall⟩:=mem_ready.1 hj
   rw [hoj] at h1
   simp only [Option.map_some,Option.getD_some,Array.any_eq_true,Bool.and_eq_true,beq_iff_eq] at h1
   obtain ⟨k,hk,hb,he⟩:=h1
   have h3:=hall _ (Array.getElem_mem hk) hb
   rw [he] at h3
   have h4:=hf b (by simp)
   rcases Nat.lt_or_ge b listed.size with h' | h'
   ·simp [h'] at h3 h4
    rw [h4] at h3
    cases h3
   ·simp [Array.getElem?_eq_none h'] at h4
theorem wpAnyT_first {i:Nat} {oi:Oper} {v:Value} (path:List Nat) (hw:waitsB md ops (path++[i])=true) (ht:t∈path) (hi:ops[i]?=some oi) (hsel:∀ (j:Nat) (o:Oper) cs b,ops[j]?=some o→o.op≠.select cs b)
 (hQ:∀ c a w,Q (.panic c) (a.put oi.dst v) w→Q (.panic c) a w) :
 ∀ (fuel:Nat) (listed:Array Bool) (a:Act) (w:World),
  (∀ j oj,ops[j]?=some oj→j≠i→listed.getD j true=false→(∀ e∈oj.after,Region.binds md e=true→e.on≠i)→oi.apart ops oj=true) →
  (∀ x∈path++[i],listed.getD x true=false)→i∈Region.ready md ops listed→YieldsIf P ops S oi v a→S w →
  wpAnyT P md ops Q S t fuel (listed.setIfInBounds i true) (a.put oi.dst v) w→wpAnyT P md ops Q S t (fuel+1) listed a w:=by
 intro fuel
 induction fuel with
 | zero =>
   intro listed a w _ _ hr hy hS H
   refine ⟨fun h=>(by rw [h] at hr;cases hr),fun j hj=>?_⟩
   by_cases hji:j=i
   ·subst hji;exact hy.wpOp hi hS ⟨fun _=>hS,H⟩
   ·have:=ready_mono hj hji
    rw [H.1] at this
    cases this
 | succ fuel ih =>
   intro listed a w hfree hun hr hy hS H
   refine ⟨fun h=>(by rw [h] at hr;cases hr),fun j hj=>?_⟩
   by_cases hji:j=i
   ·subst hji;exact hy.wpOp hi hS ⟨fun _=>hS,H⟩
   ·have h1:=H.2 j (ready_mono hj hji)
    have hjp:=waits_not hj path hw hun
    have hjt:j≠t:=fun e=>hjp (e ▸ ht)
    obtain ⟨hjun,oj,hoj,hall⟩:=mem_ready.1 hj
    have hnot:∀ e∈oj.after,Region.binds md e=true→e.on≠i:=fun e he hb heq=>by
     have h1:=hall e he hb
     have h0:=(mem_ready.1 hr).1
     rw [heq] at h1
     rcases Nat.lt_or_ge i listed.size with h' | h'
     ·simp [h'] at h0 h1;rw [h0] at h1;cases h1
     ·simp [Array.getElem?_eq_none h'] at h1
    have h2:=wpOp_putIf hoj (hfree j oj hoj hji hjun hnot) (fun cs b=>hsel i oi cs b hi) (fun cs b=>hsel j oj cs b hoj) hQ hy h1
    have hfree':∀ k ok,ops[k]?=some ok→k≠i→(listed.setIfInBounds j true).getD k true=false →
     (∀ e∈ok.after,Region.binds md e=true→e.on≠i)→oi.apart ops ok=true:=fun k ok hk hki hun hno=>by
     refine hfree k ok hk hki ?_ hno
     by_cases hjk:j=k
     ·subst hjk;exact hjun
     ·rw [getD_set_ne true hjk] at hun;exact hun
    have hun':∀ x∈path++[i],(listed.setIfInBounds j true).getD x true=false:=fun x hx=>by
     have hxj:j≠x:=by
      rintro rfl
      rcases List.mem_append.1 hx with h | h
      ·exact hjp h
      ·exact hji (by simpa using h)
     rw [getD_set_ne true hxj]
     exact hun x hx
    refine wpOp_mono (fun a' w' h3=>⟨fun _=>h3.2.1 hjt,ih (listed.setIfInBounds j true) a' w' hfree' hun' (ready_mono hr (Ne.symm hji)) h3.1 (h3.2.1 hjt) ?_⟩) h2
    rw [Array.setIfInBounds_comm _ _ hji]
    exact h3.2.2
theorem wpAnyT_take {i:Nat} {oi:Oper} {v:Value} {fuel:Nat} {listed:Array Bool} {l:List Value} {df:List Deferred} {w:World} (path:List Nat) (p:Nat) (hi:ops[i]?=some oi) (hd:oi.dst=some p)
 (hp:(waitsB md ops (path++[i])&&(path.contains t&&freshB listed (path++[i])))=true)
 (hs:(Region.noSelect ops&&(Region.free md ops listed i&&(Region.ready md ops listed).contains i))=true)
 (hQ:∀ c a w,Q (.panic c) (a.put oi.dst v) w→Q (.panic c) a w) (hy:YieldsIf P ops S oi v ⟨l.toArray,df⟩) (hS:S w)
 (h:wpAnyT P md ops Q S t fuel (listed.setIfInBounds i true) ⟨(l.set p v).toArray,df⟩ w):wpAnyT P md ops Q S t (fuel+1) listed ⟨l.toArray,df⟩ w:=by
 simp only [Bool.and_eq_true] at hp hs
 have e:Act.put (⟨l.toArray,df⟩:Act) oi.dst v=⟨(l.set p v).toArray,df⟩:=by
  rw [hd]
  simp [Act.put]
 refine wpAnyT_first path hp.1 (by simpa using hp.2.1) hi (Region.noSelect_spec hs.1) hQ fuel listed _ w (Region.free_spec hi hs.2.1) (fun x hx=>?_) (by simpa using hs.2.2) hy hS (by rw [e];exact h)
 have:=hp.2.2
 unfold freshB at this
 rw [List.all_eq_true] at this
 simpa using this x hx
theorem wpAnyT_one {i:Nat} {o:Oper} {fuel:Nat} {listed:Array Bool} {a:Act} {w:World} (hr:Region.ready md ops listed=[i]) (ho:ops[i]?=some o)
 (h:∀ K':Act→World→Prop,Shut (∀ a w,(i≠t→S w)→((i≠t→S w)→wpAnyT P md ops Q S t fuel (listed.setIfInBounds i true) a w)→K' a w)→if Region.wanted o (yielded ops a.tmps)=true then Oper.wp P o a w K' Q else K' (a.put o.dst undef) w) :
 wpAnyT P md ops Q S t (fuel+1) listed a w:=by
 refine ⟨fun h0=>(by rw [hr] at h0;cases h0),fun j hj=>?_⟩
 rw [hr] at hj
 obtain rfl:j=i:=by simpa using hj
 exact wpOp_step ho (fun K' hK=>h K' (fun a w hS hW=>hK a w ⟨hS,hW hS⟩))
theorem wpAnyT_done {listed:Array Bool} {a:Act} {w:World} (hr:Region.ready md ops listed=[]) (h:Q .normal a w):∀ fuel,wpAnyT P md ops Q S t fuel listed a w
 | 0=>⟨hr,h⟩
 | _+1=>⟨fun _=>h,by rw [hr];simp⟩
theorem wp_region_T {id:Nat} {a:Act} {w:World} (t:Nat) (hm:P.follows .mixedOrders=true)
 (h:wpAnyT P .any ops Q S t ops.size (Array.replicate ops.size false) a w.drew):(Code.region id ops true).wp P Q a w :=
 wp_region_any hm (wpAny_of_T _ _ _ _ h)
end
end Go.Proofs.YtniljgkkcnekgaaGreatDoor
