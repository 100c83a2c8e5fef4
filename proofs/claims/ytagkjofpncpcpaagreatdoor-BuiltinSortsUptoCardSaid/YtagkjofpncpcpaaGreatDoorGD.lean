/- What stays of a copy while more is made beside it: no program here. -/
import Derived.Test.YtagkjofpncpcpaaGreatDoorProg
import Derived.Test.YtagkjofpncpcpaaGreatDoorGA
import Derived.Test.YtagkjofpncpcpaaGreatDoorGB
import Derived.Test.YtagkjofpncpcpaaGreatDoorGC
import Derived.Test.YtagkjofpncpcpaaGreatDoorShelf
import Derived.Deep.AppendLies
import Derived.Lib.Repeat
import Derived.Laws.OwnMore
import Derived.Lib.SliceRun
import Derived.OrdersHeld
import Derived.Laws.CopyOwn
import Derived.Deep.WholeRow
namespace Go.Proofs.YtagkjofpncpcpaaGreatDoor
open Go.RowKit
def Keep (L:Nat) (no:Option Nat) (a b:World):Prop:=a.heap.size≤b.heap.size∧∀ k,L≤k→k<a.heap.size→no≠some k→b.heap[k]?=a.heap[k]?
theorem Keep.refl (L:Nat) (no:Option Nat) (a:World):Keep L no a a:=⟨Nat.le_refl _,fun _ _ _ _=>rfl⟩
theorem Keep.step {L:Nat} {no no2:Option Nat} {a b c:World} (h:Keep L no a b) (k:Keep L no2 b c) (hn:∀ q,L≤q→no2=some q→no=some q∨a.heap.size≤q):Keep L no a c :=
 ⟨Nat.le_trans h.1 k.1,fun q h1 h2 h3=>(k.2 q h1 (Nat.lt_of_lt_of_le h2 h.1) (fun e=>(hn q h1 e).elim h3 (fun g=>by omega))).trans (h.2 q h1 h2 h3)⟩
theorem Keep.wide {L L':Nat} {no:Option Nat} {a b:World} (h:Keep L no a b) (hL:L≤L'):Keep L' no a b:=⟨h.1,fun k h1=>h.2 k (Nat.le_trans hL h1)⟩
theorem Keep.weak {L:Nat} {no:Option Nat} {a b:World} (h:Keep L none a b):Keep L no a b:=⟨h.1,fun k h1 h2 _=>h.2 k h1 h2 (by simp)⟩
theorem keep_below {B L:Nat} {no:Option Nat} {a b:World} (h:Below B a b) (hB:a.heap.size≤B):Keep L no a b:=⟨h.size,fun k _ h2 _=>h.block k (Nat.lt_of_lt_of_le h2 hB)⟩
theorem keep_grown {L:Nat} {row:Option Nat} {a b:World} (h:a.grownBy b row):Keep L row a b:=⟨h.size,fun k _ h2 h3=>h.block k h2 (fun e=>h3 e.symm)⟩
theorem keep_grown_far {L:Nat} {row:Option Nat} {a b:World} (h:a.grownBy b row) (hr:∀ q,row=some q→q<L):Keep L none a b:=⟨h.size,fun k h1 h2 _=>h.block k h2 (fun e=>by have:=hr k e.symm;omega)⟩
def Safe (L:Nat) (no:Option Nat) (a:World) (T:World→Prop):Prop:=∀ b,Keep L no a b→T b
theorem Safe.here {L:Nat} {no:Option Nat} {a:World} {T:World→Prop} (h:Safe L no a T):T a:=h a (Keep.refl _ _ _)
theorem Safe.next {L:Nat} {no no2:Option Nat} {a b:World} {T:World→Prop} (h:Safe L no a T) (k:Keep L no a b) (hn:∀ q,L≤q→no2=some q→no=some q∨a.heap.size≤q):Safe L no2 b T:=fun c hc=>h c (k.step hc hn)
theorem Safe.wide {L L':Nat} {no:Option Nat} {a:World} {T:World→Prop} (h:Safe L' no a T) (hL:L≤L'):Safe L no a T:=fun c hc=>h c (hc.wide hL)
theorem Safe.mono {L:Nat} {no:Option Nat} {a:World} {T T':World→Prop} (h:Safe L no a T) (ht:∀ b,T b→T' b):Safe L no a T':=fun c hc=>ht c (h c hc)
theorem Safe.weak {L:Nat} {no:Option Nat} {a:World} {T:World→Prop} (h:Safe L no a T):Safe L none a T:=fun c hc=>h c hc.weak
theorem own_keep {a c:World} {base sz n L:Nat} {t:TypeId} {v:Value} {xs:List Value} (h:a.ownsRow base t sz v n xs) (hk:Keep L none a c) (hL:L≤base):c.ownsRow base t sz v n xs:=by
 refine ⟨h.1,?_⟩
 rcases h.2 with hn | ⟨g,cap,cur,rfl,h1,h2,rest⟩
 ·exact .inl hn
 ·exact .inr ⟨g,cap,cur,rfl,h1,(hk.2 g (by omega) (Array.getElem?_eq_some_iff.1 h2).1 (by simp)).trans h2,rest⟩
theorem own_slice {a:World} {base sz n:Nat} {t:TypeId} {v:Value} {xs:List Value} (h:a.ownsRow base t sz v n xs):∃ ad c,v=.slice ad n c:=by
 rcases h.2 with ⟨rfl,rfl⟩ | ⟨g,cap,cur,rfl,_⟩
 ·exact ⟨none,0,rfl⟩
 ·exact ⟨_,cap,rfl⟩
theorem vals_safe {a:World} {base N L n:Nat} {t:TypeId} {s:Value} {xs:List Value} {l:List ValD} (h:a.ownsRow base t 13 s n xs) (hn:l.length=n) (hL:L≤base)
 (hc:∀ i (hi:i<l.length),Safe L s.ownBlock a (fun c=>ValD.At c c.heap.size N l[i] ((xs.drop (i * 13)).take 13))) :
 ∃ ad cp,s=.slice ad l.length cp∧Safe L none a (fun c=>ValsAt c c.heap.size N l ad):=by
 obtain ⟨ad,cp,rfl⟩:=own_slice h
 refine ⟨ad,cp,by rw [hn],fun c hk=>?_⟩
 obtain ⟨ad',cp',e,hv⟩:=valsAt_own (l:=l) (N:=N) (own_keep h hk hL) hn (Nat.le_refl _) (fun i hi=>hc i hi c hk.weak)
 simp only [Value.slice.injEq] at e
 obtain ⟨rfl,_,_⟩:=e
 exact hv
theorem FieldsAt_of' {w:World} {B N b:Nat} (hb:b<B):∀ (l:List (ByteArray×ValD)) (o:Nat),(∀ i (hi:i<l.length),∃ cs,l[i].1.size≤N∧CellsAt w b (o+i * 14) (.string l[i].1::cs)∧ValD.At w B N l[i].2 cs)→FieldsAt w B N l (some ⟨b,o,none⟩)
 | [],_,_=>trivial
 | (k,v)::r,o,h=>by
   obtain ⟨cs,h0,h1,h2⟩:=h 0 (by simp)
   refine ⟨⟨b,o,cs,rfl,hb,h0,by simpa using h1,h2⟩,?_⟩
   refine FieldsAt_of' hb r (o+14) fun i hi=>?_
   obtain ⟨cs,h0,h1,h2⟩:=h (i+1) (by simpa using hi)
   exact ⟨cs,h0,by rw [show o+14+i * 14=o+(i+1) * 14 by omega];exact h1,h2⟩
theorem fieldsAt_own {w:World} {base N B:Nat} {v:Value} {t:TypeId} {n:Nat} {cs:List Value} {l:List (ByteArray×ValD)} (h:w.ownsRow base t 14 v n cs) (hn:l.length=n) (hB:w.heap.size≤B)
 (hl:∀ i (hi:i<l.length),∃ ys,(cs.drop (i * 14)).take 14=.string l[i].1::ys∧l[i].1.size≤N∧ValD.At w B N l[i].2 ys):∃ a c,v=.slice a l.length c∧FieldsAt w B N l a:=by
 obtain ⟨hlen,h2⟩:=h
 rcases h2 with ⟨rfl,rfl⟩ | ⟨g,cap,cur,rfl,hg,hh,hc,hm,hcs,htake⟩
 ·have:l=[]:=List.length_eq_zero_iff.1 hn
  subst this
  exact ⟨none,0,rfl,trivial⟩
 ·refine ⟨some ⟨g,0,none⟩,cap,by rw [hn],?_⟩
  have hgl:g<w.heap.size:=(Array.getElem?_eq_some_iff.1 hh).1
  refine FieldsAt_of' (Nat.lt_of_lt_of_le hgl hB) l 0 fun i hi=>?_
  obtain ⟨ys,e1,e2,e3⟩:=hl i hi
  refine ⟨ys,e2,?_,e3⟩
  rw [← e1]
  intro j hj
  have hj14:j<14:=by simp at hj;omega
  have hi':i * 14+j<n * 14:=by
   have:i+1≤n:=by omega
   have:=Nat.mul_le_mul_right 14 this
   omega
  have e:w.cell? ⟨g,0+i * 14+j,none⟩=cur[0+i * 14+j]?:=by simp [World.cell?,hh]
  rw [e,List.getElem?_take,if_pos hj14,List.getElem?_drop,← htake,List.getElem?_take,if_pos hi',Nat.zero_add]
  simp
theorem fields_safe {a:World} {base N L n:Nat} {t:TypeId} {s:Value} {xs:List Value} {l:List (ByteArray×ValD)} (h:a.ownsRow base t 14 s n xs) (hn:l.length=n) (hL:L≤base)
 (hc:∀ i (hi:i<l.length),∃ ys,(xs.drop (i * 14)).take 14=.string l[i].1::ys∧l[i].1.size≤N∧Safe L s.ownBlock a (fun c=>ValD.At c c.heap.size N l[i].2 ys)) :
 ∃ ad cp,s=.slice ad l.length cp∧Safe L none a (fun c=>FieldsAt c c.heap.size N l ad):=by
 obtain ⟨ad,cp,rfl⟩:=own_slice h
 refine ⟨ad,cp,by rw [hn],fun c hk=>?_⟩
 obtain ⟨ad',cp',e,hv⟩:=fieldsAt_own (l:=l) (N:=N) (own_keep h hk hL) hn (Nat.le_refl _) (fun i hi=>by
  obtain ⟨ys,e1,e2,e3⟩:=hc i hi
  exact ⟨ys,e1,e2,e3 c hk.weak⟩)
 simp only [Value.slice.injEq] at e
 obtain ⟨rfl,_,_⟩:=e
 exact hv
theorem drop_take_append14 {xs ys:List Value} {n i:Nat} (hx:xs.length=n * 14) (hy:ys.length=14) (hi:i<n+1) :
 ((xs++ys).drop (i * 14)).take 14=if i<n then (xs.drop (i * 14)).take 14 else ys:=by
 split
 ·rename_i h
  have h1:i * 14+14≤xs.length:=by
   have:=Nat.mul_le_mul_right 14 (show i+1≤n by omega)
   omega
  rw [List.drop_append_of_le_length (by omega),List.take_append_of_le_length (by simp;omega)]
 ·rename_i h
  obtain rfl:i=n:=by omega
  rw [← hx,List.drop_left,List.take_of_length_le (by omega)]
def CopR (N:Nat) (v:ValD) (w:World) (e:Ending) (w':World):Prop:=∃ cs:List Value,e=.returned (.agg cs.toArray)∧Safe w.heap.size none w' (fun c=>ValD.At c c.heap.size N v cs)∧Below w.heap.size w w'
def ClnR (l:List Int) (w:World) (e:Ending) (w':World):Prop:=∃ (ad:Option Addr) (cp:Nat),e=.returned (.slice ad l.length cp)∧Safe w.heap.size none w' (fun c=>BytesAt c c.heap.size l ad)∧Below w.heap.size w w'
theorem bytes_safe {a:World} {base L n:Nat} {t:TypeId} {s:Value} {l:List Int} (h:a.ownsRow base t 1 s n (l.map (Value.int .u8))) (hn:l.length=n) (hL:L≤base) (hr:∀ x∈l,0≤x∧x≤255) :
 ∃ ad cp,s=.slice ad l.length cp∧Safe L none a (fun c=>BytesAt c c.heap.size l ad):=by
 obtain ⟨ad,cp,rfl⟩:=own_slice h
 refine ⟨ad,cp,by rw [hn],fun c hk=>?_⟩
 have hc:=own_keep h hk hL
 rcases Nat.eq_zero_or_pos l.length with hz | hp
 ·exact .inl (List.length_eq_zero_iff.1 hz)
 ·rcases hc.2 with ⟨e,e2⟩ | ⟨g,cap,cur,e,hg,hh,_,_,hcs,htake⟩
  ·omega
  ·simp only [Value.slice.injEq] at e
   obtain ⟨rfl,_,rfl⟩:=e
   refine .inr ⟨g,0,rfl,(Array.getElem?_eq_some_iff.1 hh).1,fun j hj=>?_,hr⟩
   have hj':j<n * 1:=by simp at hj;omega
   have e:c.cell? ⟨g,0+j,none⟩=cur[0+j]?:=by simp [World.cell?,hh]
   rw [e,← htake,List.getElem?_take,if_pos hj',Nat.zero_add]
   simp
end Go.Proofs.YtagkjofpncpcpaaGreatDoor

/- Numerals and decimals of the program (digits.Valid, digits.Zeros, decimal.Valid): they say yes where the reference does. -/
namespace Go.Proofs.YtagkjofpncpcpaaGreatDoor
open Go.RowKit
def YesR (w:World) (e:Ending) (w':World):Prop:=e=.returned (.bool true)∧w=w'
theorem all_yes (s:ByteArray) (w:World) (hs:s.size≤maxLen) (hd:DigS s):Calls Tryz.prog 233 #[.string s] w (YesR w):=by
 have HD:=Hd hd
 clear hd
 unfold maxLen at hs
 go_enter Tryz.func233,Tryz.ntmps233
 go_wp2_with fail
 go_simp
 go_loop [6] (fun i=>∃ k:Nat,k≤s.size∧i=.int .i64 k) (fun i=>s.size-(intOf i).toNat)
 case atStart=>exact ⟨0,by omega,rfl⟩
 case round =>
  obtain ⟨k,hk,rfl⟩:=hrel
  by_cases hlt:k<s.size
  ·have hb:=byteI_eq hlt
   obtain ⟨h1,h2⟩:=HD.out k hlt
   have h3:¬ byteI s k<48:=by omega
   have h4:¬ 57<byteI s k:=by omega
   go_wp2_with fail
   go_round
   case rel=>exact ⟨k+1,by omega,by go_num⟩
   case measure=>simp [intOf];omega
  ·go_wp2_with fail
   go_ret
   exact ⟨rfl,rfl⟩
theorem dvalid_yes (s:ByteArray) (w:World) (h600:s.size≤600) (hd:DigS s) (h0:s.size=0∨byteI s 0≠48):Calls Tryz.prog 162 #[.string s] w (YesR w):=by
 have HD:=Hd hd
 clear hd
 have hm:s.size≤maxLen:=by unfold maxLen;omega
 by_cases hz:s.size=0
 ·have hn:=toList_nil hz
  go_enter Tryz.func162,Tryz.ntmps162
  go_wp2_with (go_at_call 233;refine (all_yes _ _ hm HD.out).mono ?_;rintro e w' ⟨rfl,rfl⟩)
  go_ret
  exact ⟨rfl,rfl⟩
 ·have hp:0<s.size:=by omega
  have hn:=ne_toList hp
  have hn1:(s.toList==[])=false:=by simp [hn]
  have hn2:s.toList.isEmpty=false:=by simp [hn]
  have hb:=byteI_eq hp
  have h48:byteI s 0≠48:=h0.resolve_left hz
  have q1:(byteI s 0 != 48)=true:=by simp [h48]
  clear h0 hz h48
  go_enter Tryz.func162,Tryz.ntmps162
  go_wp2_with (go_at_call 233;refine (all_yes _ _ hm HD.out).mono ?_;rintro e w' ⟨rfl,rfl⟩)
  go_ret
  exact ⟨rfl,rfl⟩
theorem trim_same {s:ByteArray} (hp:0<s.size) (h48:byteI s (s.size-1)≠48):(⟨(Lib.trimRightB s.data.toList 48).toArray⟩:ByteArray)=s:=by
 have hlt:s.size-1<s.size:=by omega
 have hlen:s.data.toList.length=s.size:=by rw [Array.length_toList];rfl
 have hx:s[s.size-1]≠48:=by
  intro e
  rw [← byteI_eq hlt,e] at h48
  exact h48 rfl
 have hl:s.data.toList=s.data.toList.take (s.size-1)++[s[s.size-1]]:=by
  have h1:=(List.take_append_drop (s.size-1) s.data.toList).symm
  have h2:s.data.toList.drop (s.size-1)=[s[s.size-1]]:=by
   rw [List.drop_eq_getElem_cons (by omega),List.drop_eq_nil_of_le (by omega)]
   rfl
  rw [h2] at h1
  exact h1
 have h3:Lib.trimRightB s.data.toList 48=s.data.toList:=by
  unfold Lib.trimRightB
  rw [hl,List.reverse_append,List.reverse_singleton,List.singleton_append,List.dropWhile_cons_of_neg (by simpa using hx)]
  simp
 rw [h3]
def NoZeroR (w:World) (e:Ending) (w':World):Prop:=e=.returned (.int .i64 0)∧w=w'
theorem dzeros_no (s:ByteArray) (w:World) (hs:s.size≤600) (hp:0<s.size) (h48:byteI s (s.size-1)≠48):Calls Tryz.prog 163 #[.string s] w (NoZeroR w):=by
 have ht:(⟨(Lib.trimRightB s.data.toList 48).toArray⟩:ByteArray)=s:=trim_same hp h48
 go_enter Tryz.func163,Tryz.ntmps163
 go_wp2_with fail
 refine (Tryz.strings_TrimRight_one s 48 (by decide) w (by omega)).mono ?_
 rintro e w' ⟨rfl,rfl⟩
 rw [ht]
 go_wp2_with fail
 go_ret
 exact ⟨rfl,rfl⟩
def YesB (w:World) (e:Ending) (w':World):Prop:=e=.returned (.bool true)∧Below w.heap.size w w'
set_option maxRecDepth 100000 in
set_option maxHeartbeats 1600000 in
theorem dec_valid (d:DecD) (w:World) (hv:VDec d):Calls Tryz.prog 102 #[.agg #[.bool d.neg,.string d.digits,.int .i64 d.exp]] w (YesB w):=by
 rcases hv with ⟨h0,hn,he⟩ | ⟨hp,h120,hdg,hf,hlz,he1,he2⟩
 ·have hd:=toList_nil h0
  have E1:=eqDEC0 d
  have hB:decB d ⟨false,⟨#[]⟩,0⟩=true:=by
   have:(⟨#[]⟩:ByteArray).toList=[]:=toList_nil rfl
   simp [decB,hn,he,hd,this]
  rw [hB] at E1
  have G1:=guardDEC
  clear hB h0
  go_enter Tryz.func102,Tryz.ntmps102
  go_wp2_with fail
  go_ret
  exact ⟨rfl,Below.box _ _⟩
 ·have hd:=ne_toList hp
  have hd1:(d.digits.toList==[])=false:=by simp [hd]
  have hd2:d.digits.toList.isEmpty=false:=by simp [hd]
  have HD:=Hd hdg
  have HL:=Hd hlz
  have HF:=Hd hf
  clear hdg hlz hf
  go_enter Tryz.func102,Tryz.ntmps102
  go_wp2_with (first
   | (go_at_call 162;refine (dvalid_yes _ _ (by omega) HD.out (.inr HF.out)).mono ?_;rintro e w' ⟨rfl,rfl⟩)
   | (go_at_call 163;refine (dzeros_no _ _ (by omega) hp HL.out).mono ?_;rintro e w' ⟨rfl,rfl⟩))
  go_ret
  exact ⟨rfl,Below.box _ _⟩
end Go.Proofs.YtagkjofpncpcpaaGreatDoor

/- Decimal numerals as numbers; the order of strings of digits of one length is that of their numbers. -/
namespace Go.Proofs.YtagkjofpncpcpaaGreatDoor
end Go.Proofs.YtagkjofpncpcpaaGreatDoor

/- The number of a numeral (digits.ToInt, datakitref01.ToInt): both compute the same. -/
namespace Go.Proofs.YtagkjofpncpcpaaGreatDoor
open Go.RowKit
theorem digits_yes (s:ByteArray) (w:World) (hs:s.size≤maxLen) (hd:DigS s):Calls Tryz.prog 271 #[.string s] w (YesR w):=by
 have HD:=Hd hd
 clear hd
 unfold maxLen at hs
 go_enter Tryz.func271,Tryz.ntmps271
 go_wp2_with fail
 go_loop [3] (fun i=>∃ k:Nat,k≤s.size∧i=.int .i64 k) (fun i=>s.size-(intOf i).toNat)
 case atStart=>exact ⟨0,by omega,rfl⟩
 case round =>
  obtain ⟨k,hk,rfl⟩:=hrel
  by_cases hlt:k<s.size
  ·have hb:=byteI_eq hlt
   obtain ⟨h1,h2⟩:=HD.out k hlt
   have h3:¬ byteI s k<48:=by omega
   have h4:¬ 57<byteI s k:=by omega
   go_wp2_with fail
   go_round
   case rel=>exact ⟨k+1,by omega,by go_num⟩
   case measure=>simp [intOf];omega
  ·go_wp2_with fail
   go_ret
   exact ⟨rfl,rfl⟩
set_option maxRecDepth 100000 in
set_option maxHeartbeats 1600000 in
theorem valid01_yes (s:ByteArray) (w:World) (h600:s.size≤600) (hd:DigS s) (h0:s.size=0∨byteI s 0≠48):Calls Tryz.prog 222 #[.string s] w (YesR w):=by
 have HD:=Hd hd
 clear hd
 have hm:s.size≤maxLen:=by unfold maxLen;omega
 by_cases hz:s.size=0
 ·have hn2:=toList_nil hz
  go_enter Tryz.func222,Tryz.ntmps222
  go_wp2_with (go_at_call 271;refine (digits_yes _ _ hm HD.out).mono ?_;rintro e w' ⟨rfl,rfl⟩)
  go_ret
  exact ⟨rfl,rfl⟩
 ·have hp:0<s.size:=by omega
  have hne:¬ s=ByteArray.empty:=by intro e;subst e;simp at hp
  have hb:=byteI_eq hp
  have h48:byteI s 0≠48:=h0.resolve_left hz
  have q1:(byteI s 0 != 48)=true:=by simp [h48]
  clear h0 hz h48
  go_enter Tryz.func222,Tryz.ntmps222
  go_wp2_with (go_at_call 271;refine (digits_yes _ _ hm HD.out).mono ?_;rintro e w' ⟨rfl,rfl⟩)
  all_goals first
   | (go_ret;exact ⟨rfl,rfl⟩)
   | (go_ret;exact ⟨by congr 2;simp [hne],rfl⟩)
end Go.Proofs.YtagkjofpncpcpaaGreatDoor

/- Noughts of the reference (datakitref01): so many zeros. -/
namespace Go.Proofs.YtagkjofpncpcpaaGreatDoor
open Go.RowKit
theorem infoU8:(Tryz.prog.info? 5).map (fun i=>(i.zero,i.size,i.bytes))=some (some (.int .u8 0),1,1):=by kernel_rfl
theorem conv_owned {w:World} {B n:Nat} {v:Value} {out:List Int} (h:w.ownsRow B 5 1 v n (out.map (Value.int .u8))) (hn:n=out.length) :
 (convert 27 9 v).run Tryz.prog w=.ok (.string (strOfNums out)) w:=by
 rcases h.2 with ⟨rfl,h0⟩ | ⟨g,cap,cur,rfl,hb,hg,_⟩
 ·have:out=[]:=List.length_eq_zero_iff.1 (by omega)
  subst this
  exact run_convert_bytes_nil w 27 5 Tryz.underlying27 Tryz.underlying5 0 0 9 Tryz.underlying9
 ·refine run_convert_bytes_arg w 27 5 Tryz.underlying27 Tryz.underlying5 g 0 n cap out hn.symm (fun i hi=>?_) 9 Tryz.underlying9
  have hi':i<out.length:=by omega
  have:=h.cells (g:=g) rfl i (.int .u8 (out.getD i 0)) (by simp [List.getElem?_eq_getElem hi',List.getD])
  have hadd:(⟨g,0,none⟩:Addr).add i=⟨g,i,none⟩:=by unfold Addr.add;split<;>simp_all
  rw [hadd] at this
  rw [Nat.zero_add]
  exact this
def zerosS (n:Nat):ByteArray:=strOfNums (List.replicate n 48)
def zerosAt (n k:Nat):List Int:=List.replicate k 48++List.replicate (n-k) 0
theorem zerosAt_len {n k:Nat} (h:k≤n):(zerosAt n k).length=n:=by unfold zerosAt;simp;omega
theorem zerosAt_full (n:Nat):zerosAt n n=List.replicate n 48:=by unfold zerosAt;simp
theorem zerosAt_set {n k:Nat} (h:k<n):(zerosAt n k).set k 48=zerosAt n (k+1):=by
 unfold zerosAt
 rw [List.set_append_right _ _ (by simp)]
 obtain ⟨m,hm⟩:∃ m,n-k=m+1:=⟨n-k-1,by omega⟩
 rw [hm,show n-(k+1)=m by omega,List.length_replicate,Nat.sub_self,List.replicate_succ,List.set_cons_zero,List.replicate_succ' (n:=k),List.append_assoc]
 rfl
theorem made_zeros (n:Nat):(madeCells (Value.cells (.int .u8 0)) (n * 1)).toList=(zerosAt n 0).map (Value.int .u8):=by
 apply List.ext_getElem?
 intro i
 unfold madeCells zerosAt
 by_cases h:i<n
 ·simp [h,Value.cells,Nat.mod_one]
 ·simp [h]
def NouR (n:Nat) (w:World) (e:Ending) (w':World):Prop:=e=.returned (.string (zerosS n))∧Below w.heap.size w w'
set_option maxRecDepth 100000 in
set_option maxHeartbeats 1600000 in
theorem noughts_ex (n:Nat) (w:World) (hn:n≤400):Calls Tryz.prog 152 #[.int .i64 n] w (NouR n w):=by
 obtain ⟨i0,hin,hz0,hz1,hz2⟩:=info_parts infoU8
 go_enter Tryz.func152,Tryz.ntmps152
 go_wp2_with (refine wpList_make_full _ rfl _ _ 27 rfl w.heap.size 5 i0 (.int .u8 0) 1 Tryz.underlying27 hin hz0 hz1 .i64 .i64 _ _ n rfl rfl rfl rfl (by rw [hz2];omega) (by unfold maxLen;omega) (Nat.le_refl _) ?_)
 intro w1 hown hgrow
 have HO:=Hd (show w1.ownsRow w.heap.size 5 1 (.slice (some ⟨w.heap.size,0,none⟩) n n) n ((zerosAt n 0).map (Value.int .u8)) by rw [← made_zeros];simpa [Value.cells] using hown)
 have HB:=Hd (show Below w.heap.size w w1 from Below.grown (Below.refl _ _) hgrow (Nat.le_refl _) (fun j hj=>by cases hj))
 clear hown hgrow
 go_wp2_with fail
 go_simp
 go_loopw [4] (fun i wr=>∃ k:Nat,k≤n∧i=.int .i64 k∧wr.ownsRow w.heap.size 5 1 (.slice (some ⟨w.heap.size,0,none⟩) n n) n ((zerosAt n k).map (Value.int .u8))∧Below w.heap.size w wr) (fun i _=>n-(intOf i).toNat)
 case atStart=>exact ⟨0,by omega,rfl,HO.out,HB.out⟩
 case round =>
  clear HO HB
  obtain ⟨w2,rfl⟩:∃ w2,w2=wr:=⟨wr,rfl⟩
  obtain ⟨k,hk,rfl,hown,hbel⟩:=hrel
  have HO:=Hd hown
  have HB:=Hd hbel
  by_cases hlt:k<n
  ·have hc:=hown.cellAt k (by omega)
   have hf:=hown.frozenAt k
   have hst:=Hd (hown.stored k (.int .u8 48))
   rw [List.getElem?_map,List.getElem?_eq_getElem (by rw [zerosAt_len hk];exact hlt),Option.map_some] at hc
   have HN:=Hd (show (w2.setCell ⟨w.heap.size,k,none⟩ (.int .u8 48)).ownsRow w.heap.size 5 1 (.slice (some ⟨w.heap.size,0,none⟩) n n) n ((zerosAt n (k+1)).map (Value.int .u8)) by
    have:=hst.out.1
    rw [← zerosAt_set hlt]
    simpa [List.map_set] using this)
   have HB2:=Hd (show Below w.heap.size w (w2.setCell ⟨w.heap.size,k,none⟩ (.int .u8 48)) from Below.grown hbel hst.out.2 hbel.size (fun j hj=>by cases hj;exact Nat.le_refl _))
   clear hown hbel hst
   go_wp2_with fail
   go_roundw
   case rel=>exact ⟨k+1,by omega,by go_num,HN.out,HB2.out⟩
   case measure=>simp [intOf];omega
  ·obtain rfl:n=k:=by omega
   clear hown hbel
   have HC:=HO.out
   rw [zerosAt_full] at HC
   have hconv:=conv_owned HC (by simp)
   clear HC
   go_wp2_with fail
   go_ret
   exact ⟨rfl,HB.out⟩
theorem strOf_rep (n:Nat):((⟨(Lib.repeatL [48] n).toArray⟩:ByteArray))=zerosS n:=by
 have h:∀ n,Lib.repeatL [48] n=List.replicate n 48:=fun n=>by
  induction n with
  | zero=>rfl
  | succ n ih=>rw [Lib.repeatL,ih,List.replicate_succ];rfl
 rw [h]
 unfold zerosS strOfNums
 congr 1
 simp
end Go.Proofs.YtagkjofpncpcpaaGreatDoor

/- slices.Clone of bytes. -/
namespace Go.Proofs.YtagkjofpncpcpaaGreatDoor
open Go.RowKit
theorem ownBytes_map {w:World} {B n:Nat} {v:Value} {l:List Int} (h:w.ownsRow B 5 1 v n ([]++l.map (Value.int .u8))):w.ownsRow B 5 1 v n (l.map (Value.int .u8)):=by simpa using h
set_option maxRecDepth 100000 in
theorem clone_ex (l:List Int) (ya:Option Addr) (yc B:Nat) (w:World) (hl:l.length≤4294967296) (hB:B≤w.heap.size) (hb:BytesAt w B l ya) :
 Calls Tryz.prog 141 #[.slice ya l.length yc] w (ClnR l w):=by
 obtain ⟨i0,hi,hz0,hz1,hz2⟩:=info_parts infoU8
 have HI:=Hd hi
 have HZ0:=Hd hz0
 have HZ1:=Hd hz1
 have HZ2:=Hd hz2
 clear hi hz0 hz1 hz2
 have q26:∀ (w:World) (a:Option Addr) (n c n' c':Nat),(binOp .eql 27 (.slice a n c) (.slice none n' c')).run Tryz.prog w=.ok (.bool a.isNone) w:=fun w a n c n' c'=>Lib.run_eql_slice_nil w _ _ a n c n' c' Tryz.underlying27
 cases ya with
 | none =>
   have h0:l=[]:=by
    rcases hb with h | ⟨b,o,h,_⟩
    ·exact h
    ·cases h
   subst h0
   clear hb
   go_enter Tryz.func141,Tryz.ntmps141
   go_wp2_with fail
   go_ret
   exact ⟨none,0,rfl,fun c _=>.inl rfl,Below.refl _ _⟩
 | some ad =>
   have hn:∀ w':World,Below w.heap.size w w'→∀ j u,(l.map (Value.int .u8))[j]?=some u→w'.cell? (ad.add j)=some u:=by
    intro w' hw j u hu
    rcases hb with h | ⟨b,o,h,hlt,hc,_⟩
    ·subst h;simp at hu
    ·cases h
     have hj:j<(l.map (Value.int .u8)).length:=by
      rcases Nat.lt_or_ge j (l.map (Value.int .u8)).length with h | h
      ·exact h
      ·rw [List.getElem?_eq_none h] at hu;cases hu
     rw [Addr.add_mid,hw.cell (Nat.lt_of_lt_of_le hlt hB),hc j hj,hu]
   have HN:=Hd hn
   have HR:=Hd (show ∀ x∈l,0≤x∧x≤255 by
    rcases hb with h | ⟨b,o,h,hlt,hc,hr⟩
    ·subst h;simp
    ·exact hr)
   clear hn hb
   go_enter Tryz.func141,Tryz.ntmps141
   go_wp2_with (at_builtin;refine wpList_append_own _ rfl _ _ 27 rfl w.heap.size 5 i0 (.int .u8 0) 1 1 Tryz.underlying27 HI.out HZ0.out HZ1.out HZ2.out rfl (by decide) _ _ _ rfl (World.ownsRow_made w #[] 0 (Nat.le_refl _) (Nat.zero_le _) rfl) ad l.length yc (l.map (Value.int .u8)) rfl ?qc1 ?qc2 ?qc3 ?qc4 ?qc5 ?qc6 ?_)
   case qc1=>simp
   case qc2=>exact HN.out _ (belowBox w _)
   case qc3=>intro u hu;obtain ⟨x,_,rfl⟩:=List.mem_map.1 hu;rfl
   case qc4=>unfold maxLen;omega
   case qc5=>omega
   case qc6=>simp
   intro v' w1 hown hgrow _
   have HO:=Hd (bytes_safe (l:=l) (ownBytes_map (B:=w.heap.size) (n:=l.length) (by simpa using hown)) rfl (Nat.le_refl _) HR.out)
   have HB:=Hd (show Below w.heap.size w w1 from (belowBox w _).grown hgrow (by simp) (by intro k hk;simp [Value.ownBlock] at hk;omega))
   clear hown hgrow
   go_wp2
   go_ret
   obtain ⟨a1,c1,e1,h1⟩:=HO.out
   exact ⟨a1,c1,by rw [← e1];rfl,h1,HB.out⟩
end Go.Proofs.YtagkjofpncpcpaaGreatDoor

/- value.copied: the same value in new cells. -/
namespace Go.Proofs.YtagkjofpncpcpaaGreatDoor
open Go.RowKit
theorem wpList_store_new {P:Program} {ops:Array Oper} {rest:List Oper} {op:Oper} {a:Act} {w:World} {Q:Exit→Act→World→Prop} (hgd:op.guard=none) (ty:TypeId) (x y:Operand) (ho:op.op=.store ty x y)
 (c c':Array Value) (hx:a.eval x=.pointer (some ⟨w.heap.size,0,none⟩)) (hy:a.eval y=.agg c')
 (hi:(P.info? ty).map (·.size)=some c'.size) (hc:c.size=c'.size) (h1:c'.all (·.oneCell')=true)
 (h:wpList P ops Q rest (a.put op.dst undef) (w.alloc (.cells c' ty))):wpList P ops Q (op::rest) a (w.alloc (.cells c ty)) :=
 wpList_plain hgd fun _ hK=>by
  unfold Oper.wp execOp
  simp only [ho,hx,hy,Instr.storeAt,Instr.sureAddr,Sem.run_bind,Sem.run_pure,Result.andThen_ok,run_storeVar_new w ty c c' hi hc h1]
  exact hK _ _ h
theorem infoF:∃ z:Array Value,z.size=14∧(Tryz.prog.info? 41).map (fun i=>(i.zero,i.size,i.bytes))=some (some (.agg z),14,184) :=
 ⟨#[.string ⟨#[]⟩,.int .i64 0,.bool false,.bool false,.string ⟨#[]⟩,.int .i64 0,.int .i64 0,.int .i64 0,.int .i64 0,.int .i64 0,.string ⟨#[]⟩,.slice none 0 0,.slice none 0 0,.slice none 0 0],rfl,by kernel_rfl⟩
theorem sizeF:(Tryz.prog.info? 41).map (·.size)=some 14:=by kernel_rfl
def zeroV:Array Value:=#[.int .i64 0,.bool false,.bool false,.string ⟨#[]⟩,.int .i64 0,.int .i64 0,.int .i64 0,.int .i64 0,.int .i64 0,.string ⟨#[]⟩,.slice none 0 0,.slice none 0 0,.slice none 0 0]
def zeroF:Array Value:=#[.string ⟨#[]⟩,.int .i64 0,.bool false,.bool false,.string ⟨#[]⟩,.int .i64 0,.int .i64 0,.int .i64 0,.int .i64 0,.int .i64 0,.string ⟨#[]⟩,.slice none 0 0,.slice none 0 0,.slice none 0 0]
theorem fold_zip_up:∀ (cs:List Value) (n:Nat) (Z:Array Value),List.foldl (fun (a:Array Value) (x:Value×Nat)=>a.setIfInBounds (1+x.2) x.1) Z (cs.zipIdx n)=List.foldl (fun (a:Array Value) (x:Value×Nat)=>a.setIfInBounds x.2 x.1) Z (cs.zipIdx (n+1))
 | [],_,_=>rfl
 | c::cs,n,Z=>by
   rw [List.zipIdx_cons,List.zipIdx_cons,List.foldl_cons,List.foldl_cons,fold_zip_up cs (n+1)]
   rw [show 1+(c,n).2=(c,n+1).2 from Nat.add_comm 1 n]
theorem fold_zip1 (ky:ByteArray) (cs:List Value) (h:cs.length=13):List.foldl (fun (a:Array Value) (x:Value×Nat)=>a.setIfInBounds (1+x.2) x.1) #[.string ky,.int .i64 0,.bool false,.bool false,.string ⟨#[]⟩,.int .i64 0,.int .i64 0,.int .i64 0,.int .i64 0,.int .i64 0,.string ⟨#[]⟩,.slice none 0 0,.slice none 0 0,.slice none 0 0] cs.zipIdx=(.string ky::cs).toArray:=by
 rw [fold_zip_up,fold_zip cs 1 _ (by rw [h];rfl)]
 rfl
theorem fold_zip2 (ky:ByteArray) (cs:List Value) (h:cs.length=13):List.foldl (fun (a:Array Value) (x:Value×Nat)=>a.setIfInBounds x.2 x.1) #[.string ky,.int .i64 0,.bool false,.bool false,.string ⟨#[]⟩,.int .i64 0,.int .i64 0,.int .i64 0,.int .i64 0,.int .i64 0,.string ⟨#[]⟩,.slice none 0 0,.slice none 0 0,.slice none 0 0] (cs.zipIdx 1)=(.string ky::cs).toArray:=by
 rw [fold_zip cs 1 _ (by rw [h];rfl)]
 rfl
theorem row_one (v:ValD) (ya la va:Option Addr) (yc lc vc:Nat):(v.row ya la va yc lc vc).toArray.all (·.oneCell')=true:=Go.all_oneCell_toArray (fun u hu=>by
 simp [ValD.row] at hu
 rcases hu with rfl | rfl | rfl | rfl | rfl | rfl | rfl | rfl | rfl | rfl | rfl | rfl | rfl<;>rfl)
theorem row_set1112 (v:ValD) (ya la va lb fb:Option Addr) (yc lc vc ld fd:Nat):((v.row ya la va yc lc vc).toArray.setIfInBounds 11 (.slice lb v.list.length ld)).setIfInBounds 12 (.slice fb v.fields.length fd)=(v.row ya lb fb yc ld fd).toArray:=rfl
def RowAt (w:World) (b:Nat) (cs:List Value):Prop:=w.heap[b]?=some (.cells cs.toArray 30 (0,0))
theorem RowAt.cell {w:World} {b j:Nat} {cs:List Value} {v:Value} (h:RowAt w b cs) (hv:cs[j]?=some v):w.cell? ⟨b,j,none⟩=some v:=by
 rw [cell_of_row w b j _ _ _ h];simpa using hv
theorem RowAt.frozen {w:World} {b:Nat} {cs:List Value} (h:RowAt w b cs) (j:Nat):w.frozen? ⟨b,j,none⟩=false:=frozen_of_row w b j _ _ h
theorem RowAt.below {w w':World} {B b:Nat} {cs:List Value} (h:RowAt w b cs) (hb:Below B w w') (hlt:b<B):RowAt w' b cs:=(hb.block b hlt).trans h
theorem RowAt.range {w:World} {b:Nat} {cs:List Value} (h:RowAt w b cs):w.rangeAt b 0 cs:=fun j v hv=>by rw [Nat.zero_add];exact h.cell hv
theorem RowAt.grown {w w':World} {b:Nat} {row:Option Nat} {cs:List Value} (h:RowAt w b cs) (hg:w.grownBy w' row) (hlt:b<w.heap.size) (hne:some b≠row):RowAt w' b cs:=(hg.block b hlt hne).trans h
theorem RowAt.alloc {w:World} {b:Nat} {cs:List Value} (h:RowAt w b cs) (hlt:b<w.heap.size) (o:Obj):RowAt (w.alloc o) b cs:=(heap_alloc_old w o hlt).trans h
theorem own_below' {w w':World} {B n sz:Nat} {t:TypeId} {v:Value} {xs:List Value} (h:w.ownsRow B t sz v n xs) (hb:Below w.heap.size w w'):w'.ownsRow B t sz v n xs:=by
 refine ⟨h.1,?_⟩
 rcases h.2 with hn | ⟨g,cap,cur,rfl,h1,h2,rest⟩
 ·exact .inl hn
 ·exact .inr ⟨g,cap,cur,rfl,h1,(hb.block g (Array.getElem?_eq_some_iff.1 h2).1).trans h2,rest⟩
theorem belowThen' {a b c:World} {L:Nat} (h:Below a.heap.size a b) (k:Below L b c) (hL:a.heap.size≤L:=by omega):Below a.heap.size a c:=h.trans (k.mono hL)
theorem step_facts {L:Nat} {wr w2 w3:World} {o o2:Obj} {s:Value} {g:Nat} (hL:L≤wr.heap.size) (hs:∀ q,s.ownBlock=some q→L≤q∧q<wr.heap.size)
 (hb2:Below (wr.alloc o).heap.size (wr.alloc o) w2) (hgrow:(w2.alloc o2).grownBy w3 s.ownBlock) (hlie:s.ownBlock=some g∨g=(w2.alloc o2).heap.size) :
 (Keep L s.ownBlock wr w3∧(∀ q,L≤q→some g=some q→s.ownBlock=some q∨wr.heap.size≤q))∧(Keep (wr.alloc o).heap.size none w2 w3∧(∀ q,(wr.alloc o).heap.size≤q→some g=some q→(none:Option Nat)=some q∨w2.heap.size≤q))∧Below L wr w3:=by
 have hsz:(wr.alloc o).heap.size=wr.heap.size+1:=World.size_alloc _ _
 have hsz2:(w2.alloc o2).heap.size=w2.heap.size+1:=World.size_alloc _ _
 have h2:=hb2.size
 have hbw:Below wr.heap.size wr w2:=belowThen (belowBox wr o) hb2
 refine ⟨⟨?_,?_⟩,⟨?_,?_⟩,?_⟩
 ·refine ((keep_below hbw (Nat.le_refl _)).step (keep_below (belowBox w2 o2) (Nat.le_refl _)) (fun q _ h=>.inl h)).step (keep_grown hgrow) (fun q _ h=>.inl h)
 ·rintro q _ e
  cases e
  rcases hlie with h | h
  ·exact .inl h
  ·exact .inr (by omega)
 ·refine (keep_below (belowBox w2 o2) (Nat.le_refl _)).step (keep_grown_far hgrow (fun q h=>?_)) (fun q _ h=>.inl h)
  have:=(hs q h).2
  omega
 ·rintro q hq e
  cases e
  rcases hlie with h | h
  ·have:=(hs _ h).2
   omega
  ·exact .inr (by omega)
 ·refine ((hbw.mono hL).alloc (by omega) o2).grown hgrow (by omega) (fun q h=>(hs q h).1)
set_option maxRecDepth 100000 in
set_option maxHeartbeats 6400000 in
theorem copied_ex (n:Nat):∀ (v:ValD) (w:World) (B N:Nat) (cs:List Value) (left:Int),(n:Int)≤left→left≤65536→fitsV n v→N≤4294967296→B≤w.heap.size→ValD.At w B N v cs →
 Calls Tryz.prog 111 #[.agg cs.toArray,.int .i64 left] w (CopR N v w):=by
 induction n with
 | zero=>intro v w B N cs left _ _ hf;exact hf.elim
 | succ n ih =>
   intro v w B N cs left hn1 hn2 hf hN hB hv
   obtain ⟨z0,hz0s,hinfo⟩:=infoV
   obtain ⟨i0,hi,hz0,hz1,hz2⟩:=info_parts hinfo
   have HI:=Hd hi
   have HZ0:=Hd hz0
   have HZ1:=Hd hz1
   have HZ2:=Hd hz2
   have HZS:=Hd hz0s
   clear hi hz0 hz1 hz2 hz0s hinfo
   obtain ⟨z1,hz0s,hinfo⟩:=infoF
   obtain ⟨i1,hi,hz0,hz1,hz2⟩:=info_parts hinfo
   have FI:=Hd hi
   have FZ0:=Hd hz0
   have FZ1:=Hd hz1
   have FZ2:=Hd hz2
   have FZS:=Hd hz0s
   clear hi hz0 hz1 hz2 hz0s hinfo
   obtain ⟨ya,la,va,yc,lc,vc,rfl,hown,hy,hl,hfl⟩:=hv.row
   have IH:=Hd ih
   have HF:=Hd hf
   have HV:=Hd hv
   have HY:=Hd hy
   have HL:=Hd hl
   have HFL:=Hd hfl
   have HOWN:=Hd hown
   have hyl:v.bytes.length≤N:=hown.2.2.2.2.2.2.2.2.1
   have hll:v.list.length≤N:=hown.2.2.2.2.2.2.2.2.2.1
   have hfll:v.fields.length≤N:=hown.2.2.2.2.2.2.2.2.2.2
   clear ih hf hv hy hl hfl hown
   obtain ⟨cs,hcs⟩:∃ cs,cs=v.row ya la va yc lc vc:=⟨_,rfl⟩
   have c10:cs[10]?=some (.slice ya v.bytes.length yc):=by rw [hcs];rfl
   have HCS:=Hd hcs
   rw [← hcs]
   clear hcs
   have H0:=Hd (show Below w.heap.size w ((w.alloc (.cells cs.toArray 30)).alloc (.cells zeroV 30)) from belowThen (belowBox w _) (belowBox _ _))
   go_enter Tryz.func111,Tryz.ntmps111
   go_wp2_with fail
   refine (clone_ex v.bytes ya yc B _ (by omega) (Nat.le_trans hB H0.out.size) (HY.out.below (H0.out.mono hB))).mono ?_
   rintro e w1 ⟨yb,yd,rfl,hsafe1,hb1⟩
   have hsz:((w.alloc (.cells cs.toArray 30)).alloc (.cells zeroV 30)).heap.size=w.heap.size+2:=by rw [World.size_alloc,World.size_alloc]
   have S1:=Hd (show Safe (w.heap.size+2) none w1 (fun c=>BytesAt c c.heap.size v.bytes yb) from by rw [← hsz];exact hsafe1)
   have R0:=Hd (show RowAt w1 w.heap.size (v.row ya la va yc lc vc) from by
    rw [← HCS.out]
    refine RowAt.below (B:=w.heap.size+2) ?_ (by rw [← hsz];exact hb1) (by omega)
    refine RowAt.alloc ?_ (by rw [World.size_alloc];omega) _
    exact heap_alloc_new w _)
   have R1:=Hd (show RowAt w1 (w.heap.size+1) zeroV.toList from by
    refine RowAt.below (B:=w.heap.size+2) ?_ (by rw [← hsz];exact hb1) (by omega)
    have:=heap_alloc_new (w.alloc (.cells cs.toArray 30)) (.cells zeroV 30)
    rw [World.size_alloc] at this
    exact this)
   have H1:=Hd (belowThen H0.out hb1)
   have hs1:=hb1.size
   rw [hsz] at hs1
   clear hb1 hsz hsafe1 c10
   have c10:=R0.out.cell (show (v.row ya la va yc lc vc)[10]?=_ from rfl)
   have f10:=R0.out.frozen 10
   have R3:=Hd (show RowAt (w1.setCell ⟨w.heap.size,10,none⟩ (.slice yb v.bytes.length yd)) w.heap.size (v.row yb la va yd lc vc) from by
    unfold RowAt
    rw [heap_setCell_same w1 w.heap.size 10 _ _ _ R0.out]
    rfl)
   have R4:=Hd (show RowAt (w1.setCell ⟨w.heap.size,10,none⟩ (.slice yb v.bytes.length yd)) (w.heap.size+1) zeroV.toList from by
    unfold RowAt
    rw [heap_setCell_other _ _ _ _ (by simp)]
    exact R1.out)
   have S3:=Hd (show Safe (w.heap.size+2) none (w1.setCell ⟨w.heap.size,10,none⟩ (.slice yb v.bytes.length yd)) (fun c=>BytesAt c c.heap.size v.bytes yb) from by
    refine S1.out.next ⟨by simp,fun k h1 _ _=>heap_setCell_other _ _ _ _ (by simp;omega)⟩ (fun q _ h=>by cases h))
   have H3:=Hd (show Below w.heap.size w (w1.setCell ⟨w.heap.size,10,none⟩ (.slice yb v.bytes.length yd)) from H1.out.setCell (Nat.le_refl _) _)
   have hs3:w.heap.size+2≤(w1.setCell ⟨w.heap.size,10,none⟩ (.slice yb v.bytes.length yd)).heap.size:=by simpa using hs1
   have c11:=R3.out.cell (show (v.row yb la va yd lc vc)[11]?=_ from rfl)
   clear R0 R1 S1 H1 hs1
   have hns:¬ left<1:=by omega
   go_wp2_with fail
   go_simp
   go_loopw [5,23] (fun s i wr=>∃ (k:Nat) (xs:List Value),k≤v.list.length∧i=.int .i64 k∧wr.ownsRow (w.heap.size+2) 30 13 s k xs ∧
    Hid (∀ j (hj:j<v.list.length),j<k→Safe (w.heap.size+2) s.ownBlock wr (fun c=>ValD.At c c.heap.size N v.list[j] ((xs.drop (j * 13)).take 13))) ∧
    Hid (Safe (w.heap.size+2) s.ownBlock wr (fun c=>BytesAt c c.heap.size v.bytes yb)) ∧
    Hid (RowAt wr w.heap.size (v.row yb la va yd lc vc))∧Hid (RowAt wr (w.heap.size+1) zeroV.toList)∧Hid (Below w.heap.size w wr)∧w.heap.size+2≤wr.heap.size)
    (fun _ i _=>v.list.length-(intOf i).toNat)
   case atStart=>exact ⟨0,[],by omega,rfl,World.ownsRow_nil _ _ _ _,Hd (fun j _ hj=>absurd hj (by omega)),Hd S3.out,R3,R4,H3,hs3⟩
   case round =>
    obtain ⟨w4,rfl⟩:∃ w4,w4=wr:=⟨wr,rfl⟩
    clear S3 R3 R4 H3 hs3 c11 c10 f10
    obtain ⟨k,xs,hk,rfl,hown,HCH,S4,R4,R5,H4,hs4⟩:=hrel
    have HO:=Hd hown
    clear hown
    by_cases hlt:k<v.list.length
    ·obtain ⟨b,o,rfl,hb,hget⟩:=HL.out.get (by intro h;simp [h] at hlt)
     obtain ⟨cs1,h1,h2⟩:=hget k hlt
     have HR:=Hd (h1.below (H4.out.mono hB) hb).range
     have H5:=Hd (show ValD.At (w4.alloc (.cells cs1.toArray 30)) B N v.list[k] cs1 from h2.below ((belowThen H4.out (belowBox w4 _)).mono hB))
     have hl1:=Hd (show (Tryz.prog.info? 30).map (·.size)=some cs1.length by rw [h2.len];exact sizeV)
     have hl2:=Hd (show (Tryz.prog.info? 30).map (·.size)=some cs1.toArray.size by rw [List.size_toArray,h2.len];exact sizeV)
     have hl3:=Hd (show zeroV.size=cs1.toArray.size by show 13=cs1.toArray.size;rw [List.size_toArray,h2.len])
     have hone:=Hd (show cs1.toArray.all (·.oneCell')=true from Go.all_oneCell_toArray h2.oneCell)
     have HFC:=Hd (HF.out.1 v.list[k] (List.getElem_mem hlt))
     clear h1 h2 hget
     go_wp2_with (first
      | (refine wpList_load_mid rfl 30 _ rfl b (o+k * 13) rfl cs1 _ HR.out Tryz.underlying30 rfl hl1.out ?_)
      | (refine wpList_store_new rfl 30 _ _ rfl zeroV cs1.toArray rfl rfl hl2.out hl3.out hone.out ?_)
      | (refine wpList_load_mid rfl 30 _ rfl w4.heap.size 0 rfl cs1 _ (box_at w4 cs1 30).range Tryz.underlying30 rfl hl1.out ?_))
     have hbs:B≤(w4.alloc (.cells cs1.toArray 30)).heap.size:=by rw [World.size_alloc];omega
     refine (IH.out _ _ B N cs1 (left-1) (by omega) (by omega) HFC.out hN hbs H5.out).mono ?_
     rintro e w5 ⟨cs2,rfl,hsafe,hb5⟩
     have HS:=Hd hsafe
     have H6:=Hd hb5
     have hlen2:=hsafe.here.len
     have hfz:=fold_zip0 cs2 #[.int .i64 0,.bool false,.bool false,.string ⟨#[]⟩,.int .i64 0,.int .i64 0,.int .i64 0,.int .i64 0,.int .i64 0,.string ⟨#[]⟩,.slice none 0 0,.slice none 0 0,.slice none 0 0] hsafe.here.len.symm
     have HO5:=Hd (own_below' HO.out (belowThen (belowBox w4 _) hb5))
     have hs5:w.heap.size+2≤w5.heap.size:=by have:=hb5.size;rw [World.size_alloc] at this;omega
     clear hsafe hb5
     go_wp2_with (at_builtin;refine wpList_append_lies _ rfl _ _ 22 rfl (w.heap.size+2) 30 i0 (.agg z0) 13 168 Tryz.underlying22 HI.out HZ0.out HZ1.out HZ2.out HZS.out (by decide) _ _ _ rfl (HO5.out.alloc _) ⟨w5.heap.size,0,none⟩ 1 1 cs2 rfl HS.out.here.len ?c1 ?c2 (by decide) ?c3 ?c4 ?c5 _ rfl ?_)
     case c1 =>
      intro j u hj
      rw [addr_add',World.cell?_alloc_new]
      simpa using hj
     case c2=>exact HS.out.here.oneCell
     case c3=>unfold maxLen;omega
     case c4=>omega
     case c5=>rw [World.size_alloc];omega
     intro g cap w6 hown6 hgrow6 hlie6 hlt6
     have hf:=step_facts (L:=w.heap.size+2) hs4 (fun q hq=>HO.out.lt q hq) H6.out hgrow6 (by rw [World.size_alloc];exact hlie6)
     have HO6:=Hd hown6
     have hs6:w.heap.size+2≤w6.heap.size:=by have:=hf.2.2.size;omega
     have HSF:=Hd hf
     clear hown6 hgrow6 hlie6 hf
     go_wp2
     go_roundw
     case rel =>
      refine ⟨k+1,xs++cs2,by omega,by go_num,HO6.out,Hd (fun j hj hjk=>?_),?_,?_,?_,?_,hs6⟩
      ·rw [drop_take_append HO.out.1 hlen2 hjk]
       split
       ·exact (HCH.out j hj ‹_›).next HSF.out.1.1 HSF.out.1.2
       ·obtain rfl:j=k:=by omega
        exact (HS.out.next HSF.out.2.1.1 HSF.out.2.1.2).wide (by rw [World.size_alloc];omega)
      ·exact Hd (S4.out.next HSF.out.1.1 HSF.out.1.2)
      ·exact Hd (R4.out.below HSF.out.2.2 (by omega))
      ·exact Hd (R5.out.below HSF.out.2.2 (by omega))
      ·exact Hd (belowThen' H4.out HSF.out.2.2)
     case measure=>simp [intOf];omega
    ·obtain rfl:k=v.list.length:=by omega
     have hvs:=vals_safe (N:=N) (L:=w.heap.size+2) (l:=v.list) HO.out rfl (Nat.le_refl _) (fun i hi=>HCH.out i hi hi)
     obtain ⟨lb,ld,rfl,hls⟩:=hvs
     have S5:=Hd (S4.out.weak)
     have S6:=Hd hls
     have c12:=R4.out.cell (show (v.row yb la va yd lc vc)[12]?=_ from rfl)
     clear hls HO HCH S4
     go_wp2_with fail
     go_simp
     go_loopw [8,38] (fun s i wr=>∃ (k:Nat) (xs:List Value),k≤v.fields.length∧i=.int .i64 k∧wr.ownsRow (w.heap.size+2) 41 14 s k xs ∧
      Hid (∀ j (hj:j<v.fields.length),j<k→∃ ys,(xs.drop (j * 14)).take 14=.string v.fields[j].1::ys∧v.fields[j].1.size≤N∧Safe (w.heap.size+2) s.ownBlock wr (fun c=>ValD.At c c.heap.size N v.fields[j].2 ys)) ∧
      Hid (Safe (w.heap.size+2) s.ownBlock wr (fun c=>BytesAt c c.heap.size v.bytes yb))∧Hid (Safe (w.heap.size+2) s.ownBlock wr (fun c=>ValsAt c c.heap.size N v.list lb)) ∧
      Hid (RowAt wr w.heap.size (v.row yb la va yd lc vc))∧Hid (RowAt wr (w.heap.size+1) zeroV.toList)∧Hid (Below w.heap.size w wr)∧w.heap.size+2≤wr.heap.size)
      (fun _ i _=>v.fields.length-(intOf i).toNat)
     case atStart=>exact ⟨0,[],by omega,rfl,World.ownsRow_nil _ _ _ _,Hd (fun j _ hj=>absurd hj (by omega)),S5,S6,R4,R5,H4,hs4⟩
     case round =>
      obtain ⟨w7,rfl⟩:∃ w7,w7=wr:=⟨wr,rfl⟩
      clear S5 S6 R4 R5 H4 hs4 c12
      obtain ⟨k,xs,hk,rfl,hown,HCH,S5,S6,R4,R5,H4,hs4⟩:=hrel
      have HO:=Hd hown
      clear hown
      by_cases hlt:k<v.fields.length
      ·obtain ⟨b,o,rfl,hb,hget⟩:=HFL.out.get (by intro h;simp [h] at hlt)
       obtain ⟨cs1,hkey,h1,h2⟩:=hget k hlt
       obtain ⟨ky,hky⟩:∃ ky,ky=v.fields[k].1:=⟨_,rfl⟩
       rw [← hky] at h1 hkey
       have HKY:=Hd hky
       clear hky
       have HR:=Hd (h1.below (H4.out.mono hB) hb).range
       have HX:=Hd (show ValD.At (w7.alloc (.cells (.string ky::cs1).toArray 41)) B N v.fields[k].2 cs1 from h2.below ((belowThen H4.out (belowBox w7 _)).mono hB))
       have hlen1:=h2.len
       have hl1:=Hd (show (Tryz.prog.info? 41).map (·.size)=some (Value.string ky::cs1).length by rw [List.length_cons,h2.len];exact sizeF)
       have hl2:=Hd (show (Tryz.prog.info? 41).map (·.size)=some (Value.string ky::cs1).toArray.size by rw [List.size_toArray,List.length_cons,h2.len];exact sizeF)
       have hl3:=Hd (show zeroF.size=(Value.string ky::cs1).toArray.size by show 14=_;rw [List.size_toArray,List.length_cons,h2.len])
       have hl4:=Hd (show (Tryz.prog.info? 30).map (·.size)=some cs1.length by rw [h2.len];exact sizeV)
       have hone:=Hd (show (Value.string ky::cs1).toArray.all (·.oneCell')=true from Go.all_oneCell_toArray (fun u hu=>by
        rcases List.mem_cons.1 hu with rfl | hu
        ·rfl
        ·exact h2.oneCell u hu))
       have HFC:=Hd (HF.out.2 v.fields[k] (List.getElem_mem hlt))
       clear h1 h2 hget
       go_wp2_with (first
        | (refine wpList_load_mid rfl 41 _ rfl b (o+k * 14) rfl (.string ky::cs1) _ HR.out Tryz.underlying41 rfl hl1.out ?_)
        | (refine wpList_store_new rfl 41 _ _ rfl zeroF (.string ky::cs1).toArray rfl rfl hl2.out hl3.out hone.out ?_))
       have D3:=Hd (show Below (w7.alloc (.cells (.string ky::cs1).toArray 41)).heap.size (w7.alloc (.cells (.string ky::cs1).toArray 41)) (w7.alloc (.cells (.string ky::cs1).toArray 41)).drew from ⟨rfl,rfl,rfl,Nat.le_refl _,fun _ _=>rfl⟩)
       have hs7:w7.heap.size<(w7.alloc (.cells (.string ky::cs1).toArray 41)).heap.size:=by rw [World.size_alloc];omega
       refine wp_region_held_drew (S:=fun u=>CellsAt u w7.heap.size 0 (.string ky::cs1)) (by kernel_rfl) ((box_at w7 _ 41).below D3.out hs7) (fun hHeld=>?_)
       refine wpAnyH_take (i:=0) (v:=u8) rfl (by kernel_rfl) (by kernel_rfl) (by kernel_rfl) (fun _ _ _ h=>h) (Or.inl ⟨by rfl,fun u hu=>by go_simp⟩) (by assumption) ?_
       simp only [Act.put]
       refine wpAnyH_take (i:=1) (v:=.pointer (some ⟨w7.heap.size,0,none⟩)) rfl (by kernel_rfl) (by kernel_rfl) (by kernel_rfl) (fun _ _ _ h=>h) (Or.inl ⟨by rfl,fun u hu=>by go_simp⟩) (by assumption) ?_
       simp only [Act.put]
       refine wpAnyH_take (i:=2) (v:=.string ky) rfl (by kernel_rfl) (by kernel_rfl) (by kernel_rfl) (fun _ _ _ h=>h) (Or.inl ⟨by rfl,fun u hu=>by have hc:=CellsAt.get0 hu (show (Value.string ky::cs1)[0]?=some (.string ky) from rfl);go_simp⟩) (by assumption) ?_
       simp only [Act.put]
       refine wpAnyH_take (i:=3) (v:=.pointer (some ⟨w7.heap.size,1,none⟩)) rfl (by kernel_rfl) (by kernel_rfl) (by kernel_rfl) (fun _ _ _ h=>h) (Or.inl ⟨by rfl,fun u hu=>by go_simp⟩) (by assumption) ?_
       simp only [Act.put]
       refine' wpAnyH_take (i:=4) (v:=_) rfl (by kernel_rfl) (by kernel_rfl) (by kernel_rfl) (fun _ _ _ h=>h) (yieldsIf_load_mid (by rfl) 30 _ rfl w7.heap.size 1 rfl cs1 _ (fun u hu=>(CellsAt.tail hu).range) Tryz.underlying30 rfl hl4.out) (by assumption) ?_
       simp only [Act.put]
       refine wpAnyH_take (i:=5) (v:=.int .i64 left) rfl (by kernel_rfl) (by kernel_rfl) (by kernel_rfl) (fun _ _ _ h=>h) (Or.inl ⟨by rfl,fun u hu=>by go_simp⟩) (by assumption) ?_
       simp only [Act.put]
       refine wpAnyH_take (i:=6) (v:=.int .i64 (left-1)) rfl (by kernel_rfl) (by kernel_rfl) (by kernel_rfl) (fun _ _ _ h=>h) (Or.inl ⟨by rfl,fun u hu=>by go_simp;rw [IntKind.wrap_i64];omega⟩) (by assumption) ?_
       simp only [Act.put]
       refine rd1 7 rfl (fun K hK=>?_)
       go_simp
       have hbs:B≤(w7.alloc (.cells (.string ky::cs1).toArray 41)).heap.size:=by rw [World.size_alloc];omega
       refine (IH.out _ _ B N cs1 (left-1) (by omega) (by omega) HFC.out hN (Nat.le_trans hbs D3.out.size) (HX.out.below (D3.out.mono hbs))).mono ?_
       rintro e w5 ⟨cs2,rfl,hsafe,hb5⟩
       have HS:=Hd hsafe
       have H6:=Hd (belowThen D3.out hb5)
       refine hK.out _ _ (hHeld.below hb5 (Nat.lt_of_lt_of_le hs7 D3.out.size)) (fun hHeld1=>?_)
       clear hK K hb5 hsafe hHeld
       have hlen2:=HS.out.here.len
       have hfz1:=fold_zip1 ky cs2 hlen2
       have hfz2:=fold_zip2 ky cs2 hlen2
       refine rd1 8 rfl (fun K hK=>?_)
       go_simp
       refine hK.out _ _ hHeld1 (fun hHeld2=>?_)
       clear hK K hHeld2
       refine rd1 9 rfl (fun K hK=>?_)
       go_simp
       have hs8:w7.heap.size<w5.heap.size:=by have:=H6.out.size;omega
       refine hK.out _ _ (hHeld1.below (belowBox w5 _) hs8) (fun hHeld2=>?_)
       clear hK K hHeld1
       have HO5:=Hd (own_below' HO.out (belowThen (belowBox w7 _) H6.out))
       have hs5:w.heap.size+2≤w5.heap.size:=by omega
       refine rd1 10 rfl (fun K hK=>?_)
       refine step_append_lies _ rfl (.tmp 42) (.tmp 51) 28 rfl (w.heap.size+2) 41 i1 (.agg z1) 14 184 Tryz.underlying28 FI.out FZ0.out FZ1.out FZ2.out FZS.out (by decide) _ _ _ rfl (HO5.out.alloc _) ⟨w5.heap.size,0,none⟩ 1 1 (.string ky::cs2) rfl (by rw [List.length_cons,HS.out.here.len]) ?c1 ?c2 (by decide) ?c3 ?c4 ?c5 _ rfl ?_
       case c1 =>
        intro j u hj
        rw [addr_add',World.cell?_alloc_new]
        simpa using hj
       case c2 =>
        intro u hu
        rcases List.mem_cons.1 hu with rfl | hu
        ·rfl
        ·exact HS.out.here.oneCell u hu
       case c3=>unfold maxLen;omega
       case c4=>omega
       case c5=>rw [World.size_alloc];omega
       intro g cap w6 hown6 hgrow6 hlie6 hlt6
       have hf:=step_facts (L:=w.heap.size+2) hs4 (fun q hq=>HO.out.lt q hq) H6.out hgrow6 hlie6
       have HO6:=Hd hown6
       have hs6:w.heap.size+2≤w6.heap.size:=by have:=hf.2.2.size;omega
       have HSF:=Hd hf
       have hc6:CellsAt w6 w7.heap.size 0 (.string ky::cs1):=fun j hj=>by
        refine (hgrow6.cell_far ⟨w7.heap.size,0+j,none⟩ (by rw [World.size_alloc];show w7.heap.size<_;omega) ?_).trans (hHeld2 j hj)
        intro e
        have:=(HO.out.lt w7.heap.size e.symm).2
        omega
       have HC6:=Hd hc6
       refine hK.out _ _ hc6 (fun _=>?_)
       clear hK K hgrow6 hlie6 hown6 hf hc6 hHeld2
       simp only [Act.put]
       refine rd1 11 rfl (fun K hK=>?_)
       go_simp
       refine hK.out _ _ HC6.out (fun _=>?_)
       clear hK K
       refine wpAnyH_done (by kernel_rfl) ?_ _
       go_wp2_with fail
       go_roundw
       case rel =>
        refine ⟨k+1,xs++(.string ky::cs2),by omega,by go_num,HO6.out,Hd (fun j hj hjk=>?_),?_,?_,?_,?_,?_,hs6⟩
        ·rw [drop_take_append14 HO.out.1 (by rw [List.length_cons,HS.out.here.len]) hjk]
         split
         ·obtain ⟨ys,e1,e2,e3⟩:=HCH.out j hj ‹_›
          exact ⟨ys,e1,e2,e3.next HSF.out.1.1 HSF.out.1.2⟩
         ·obtain rfl:j=k:=by omega
          exact ⟨cs2,by rw [HKY.out],by rw [← HKY.out];exact hkey,(HS.out.next HSF.out.2.1.1 HSF.out.2.1.2).wide (by show _≤(w7.alloc _).heap.size;rw [World.size_alloc];omega)⟩
        ·exact Hd (S5.out.next HSF.out.1.1 HSF.out.1.2)
        ·exact Hd (S6.out.next HSF.out.1.1 HSF.out.1.2)
        ·exact Hd (R4.out.below HSF.out.2.2 (by omega))
        ·exact Hd (R5.out.below HSF.out.2.2 (by omega))
        ·exact Hd (belowThen' H4.out HSF.out.2.2)
       case measure=>simp [intOf];omega
      ·obtain rfl:k=v.fields.length:=by omega
       have hvs:=fields_safe (N:=N) (L:=w.heap.size+2) (l:=v.fields) HO.out rfl (Nat.le_refl _) (fun i hi=>HCH.out i hi hi)
       obtain ⟨fb,fd,rfl,hls⟩:=hvs
       have T5:=Hd (S5.out.weak)
       have T6:=Hd (S6.out.weak)
       have T7:=Hd hls
       clear hls HO HCH S5 S6
       have c11:=R4.out.cell (show (v.row yb la va yd lc vc)[11]?=_ from rfl)
       have c12:=R4.out.cell (show (v.row yb la va yd lc vc)[12]?=_ from rfl)
       have f11:=R4.out.frozen 11
       have f12:=R4.out.frozen 12
       have Q0:=Hd (show RowAt ((w7.setCell ⟨w.heap.size,11,none⟩ (.slice lb v.list.length ld)).setCell ⟨w.heap.size,12,none⟩ (.slice fb v.fields.length fd)) w.heap.size (v.row yb lb fb yd ld fd) from by
        unfold RowAt
        rw [heap_setCell_same _ w.heap.size 12 _ _ _ (heap_setCell_same w7 w.heap.size 11 _ _ _ R4.out),row_set1112])
       have Q1:=Hd (show RowAt ((w7.setCell ⟨w.heap.size,11,none⟩ (.slice lb v.list.length ld)).setCell ⟨w.heap.size,12,none⟩ (.slice fb v.fields.length fd)) (w.heap.size+1) zeroV.toList from by
        unfold RowAt
        rw [heap_setCell_other _ _ _ _ (by simp),heap_setCell_other _ _ _ _ (by simp)]
        exact R5.out)
       have H8:=Hd (show Below w.heap.size w ((w7.setCell ⟨w.heap.size,11,none⟩ (.slice lb v.list.length ld)).setCell ⟨w.heap.size,12,none⟩ (.slice fb v.fields.length fd)) from (H4.out.setCell (Nat.le_refl _) _).setCell (Nat.le_refl _) _)
       obtain ⟨w8,hw8⟩:∃ w8,w8=(w7.setCell ⟨w.heap.size,11,none⟩ (.slice lb v.list.length ld)).setCell ⟨w.heap.size,12,none⟩ (.slice fb v.fields.length fd):=⟨_,rfl⟩
       obtain ⟨ro,hro⟩:∃ ro,ro=v.row yb lb fb yd ld fd:=⟨_,rfl⟩
       have hrl:ro.length=13:=by rw [hro];rfl
       have hr1:ro.toArray.all (·.oneCell')=true:=by rw [hro];exact row_one _ _ _ _ _ _ _
       have hsr:=Hd (show (Tryz.prog.info? 30).map (·.size)=some ro.length by rw [hrl];exact sizeV)
       have hsr2:=Hd (show (Tryz.prog.info? 30).map (·.size)=some ro.toArray.size by rw [List.size_toArray,hrl];exact sizeV)
       have hsr3:=Hd (show zeroV.size=ro.toArray.size by show 13=_;rw [List.size_toArray,hrl])
       have hone:=Hd hr1
       have HRO:=Hd hro
       rw [← hw8,← hro] at Q0
       rw [← hw8] at Q1 H8
       have HW8:=Hd hw8
       clear hro hw8 hr1 hrl
       go_wp2_with (first
        | (rw [← HW8.out];refine wpList_load_mid rfl 30 _ rfl w.heap.size 0 rfl ro _ Q0.out.range Tryz.underlying30 rfl hsr.out ?_)
        | (refine wpList_store_row rfl 30 _ _ rfl (w.heap.size+1) ro.toArray rfl rfl 30 zeroV Q1.out hsr2.out hsr3.out hone.out ?_))
       refine bodyPost_ret (results_cell_row rfl _ _ (w.heap.size+1) 30 _ (0,0) _ rfl (setRow_heap _ _ _ _ _ _ Q1.out) Tryz.underlying30 rfl hsr2.out) rfl ?_
       refine ⟨ro,rfl,?_,below_setRow H8.out (by omega) _⟩
       have hkeep:Keep (w.heap.size+2) none w7 (w8.setRow (w.heap.size+1) ro.toArray):=by
        rw [HW8.out]
        refine ⟨by simp,fun q h1 _ _=>?_⟩
        rw [setRow_other _ _ _ _ (by omega),heap_setCell_other _ _ _ _ (by simp;omega),heap_setCell_other _ _ _ _ (by simp;omega)]
       refine Safe.wide (L':=w.heap.size+2) (fun c hc=>?_) (by omega)
       rw [HRO.out]
       exact ValD.At.mk HOWN.out (T5.out c (hkeep.step hc (fun q _ h=>by cases h))) (T6.out c (hkeep.step hc (fun q _ h=>by cases h))) (T7.out c (hkeep.step hc (fun q _ h=>by cases h)))
end Go.Proofs.YtagkjofpncpcpaaGreatDoor
