/- The library's stable sort of fields by their keys: blocks by insertion, then merged two by two; slices.SortStableFunc. -/
import Derived.Test.YtniljgkkcnekgaaGreatDoorProg
import Derived.Test.YtniljgkkcnekgaaGreatDoorGA
import Derived.Test.YtniljgkkcnekgaaGreatDoorGB
import Derived.Test.YtniljgkkcnekgaaGreatDoorGC
import Derived.Test.YtniljgkkcnekgaaGreatDoorGK
import Derived.Test.YtniljgkkcnekgaaGreatDoorSA
import Derived.Test.YtniljgkkcnekgaaGreatDoorSB
import Derived.Test.YtniljgkkcnekgaaGreatDoorSC
import Derived.Great.BuildSlice
import Derived.Sort.Walk0
namespace Go.Proofs.YtniljgkkcnekgaaGreatDoor
namespace Stb
end Stb
open Go.RowKit Stb
set_option maxRecDepth 100000 in
set_option maxHeartbeats 6400000 in
theorem stb_ex (n c pb:Nat) (f:Nat→List Value) (tl:List Value) (w:World) (hn:n≤4294967296) (R:RowsF w pb n f tl) :
 Calls Tryz.prog 160 #[.slice (some ⟨pb,0,none⟩) n c,.int .i64 n,.func (.func 140) #[] #[]] w (SrtR pb n tl (fun g=>PermOn 0 n f g∧SortedOn LeR g 0 n) w):=by
 have HR:=Hd R
 clear R
 go_enter Tryz.func160,Tryz.ntmps160
 go_wp2_with fail
 go_loopw [7,8] (fun x y wr=>∃ (p A B:Nat) (g:Nat→List Value),x=.int .i64 A∧y=.int .i64 B∧B≤A+20∧A+20≤B∧A≤n∧Hid (A=p * 20)∧RowsF wr pb n g tl∧FB pb w wr∧PermOn 0 n f g∧Runs0 LeR g 20 p) (fun _ y _=>n+20-(intOf y).toNat)
 case atStart=>exact ⟨0,0,20,f,rfl,rfl,by omega,by omega,by omega,Hd (by omega),HR.out,FB.refl _ _,PermOn.refl _ _ _,Runs0.nil _ _ _⟩
 case round =>
  obtain ⟨p,A,B,g,rfl,rfl,hB1,hB2,hA,HA,hR,hF,hP,hS⟩:=hrel
  have HR1:=Hd hR
  have HF1:=Hd hF
  have HP1:=Hd hP
  have HS1:=Hd hS
  clear hR hF hP hS HR
  by_cases hlt:B≤n
  ·go_wp2_with (go_at_call 169;refine (ins_ex n c pb g tl _ A B (by omega) hlt hn HR1.out).mono ?_;rintro e w2 ⟨rfl,hf2,g2,hr2,hg2⟩;have HR3:=Hd hr2;have HF3:=Hd hf2;have HG:=Hd hg2;clear hr2 hf2 hg2)
   have e1:=Hd (show B=A+20 by omega)
   have S2:=Hd (show PermOn 0 n f g2∧Runs0 LeR g2 20 (p+1) by
    have h1:=HG.out
    rw [e1.out,HA.out] at h1
    exact ⟨HP1.out.trans ((HG.out.1).wide (Nat.zero_le _) hlt),HS1.out.step h1.1 h1.2⟩)
   go_roundw
   case rel=>exact ⟨p+1,B,B+20,g2,rfl,by go_num,by omega,by omega,hlt,Hd (by have:=HA.out;omega),HR3.out,HF1.out.trans HF3.out,S2.out.1,S2.out.2⟩
   case measure=>simp [intOf];omega
  ·go_wp2_with (go_at_call 169;refine (ins_ex n c pb g tl _ A n hA (Nat.le_refl _) hn HR1.out).mono ?_;rintro e w2 ⟨rfl,hf2,g2,hr2,hg2⟩;have HR3:=Hd hr2;have HF3:=Hd hf2;have HG:=Hd hg2;clear hr2 hf2 hg2)
   have S2:=Hd (show PermOn 0 n f g2∧Runs LeR g2 20 n 0 by
    have h1:=HG.out
    rw [HA.out] at h1
    exact ⟨HP1.out.trans ((HG.out.1).wide (Nat.zero_le _) (Nat.le_refl _)),HS1.out.last (by have:=HA.out;omega) (by have:=HA.out;omega) h1.1 h1.2⟩)
   have HF4:=Hd (HF1.out.trans HF3.out)
   clear HG HF3 HF1 HP1 HS1 HR1
   go_loopw [6] (fun z wr=>∃ (s:Nat) (g:Nat→List Value),z=.int .i64 s∧20≤s∧s≤2 * n+20∧RowsF wr pb n g tl∧FB pb w wr∧PermOn 0 n f g∧Runs LeR g s n 0) (fun z _=>n-(intOf z).toNat)
   case atStart=>exact ⟨20,g2,rfl,by omega,by omega,HR3.out,HF4.out,S2.out.1,S2.out.2⟩
   case round =>
    obtain ⟨s,g3,rfl,hs1,hs2,hR,hF,hP,hS⟩:=hrel
    have HR5:=Hd hR
    have HF5:=Hd hF
    have HP5:=Hd hP
    have HS5:=Hd hS
    clear hR hF hP hS HR3 HF4 S2
    by_cases hlt2:s<n
    ·go_wp2_with fail
     go_loopw [7,8] (fun x y wr=>∃ (p A B:Nat) (g:Nat→List Value),x=.int .i64 A∧y=.int .i64 B∧B≤A+2 * s∧A+2 * s≤B∧A≤n∧Hid (A=p * (2 * s))∧RowsF wr pb n g tl∧FB pb w wr∧PermOn 0 n f g∧Runs0 LeR g (2 * s) p∧Runs LeR g s n (2 * p)) (fun _ y _=>n+2 * s-(intOf y).toNat)
     case atStart=>exact ⟨0,0,2 * s,g3,rfl,by go_num,by omega,by omega,by omega,Hd (by omega),HR5.out,HF5.out,HP5.out,Runs0.nil _ _ _,HS5.out⟩
     case round =>
      obtain ⟨p,A,B,g,rfl,rfl,hB1,hB2,hA,HA,hR,hF,hP,hS,hS'⟩:=hrel
      have HR1:=Hd hR
      have HF1:=Hd hF
      have HP1:=Hd hP
      have HS1:=Hd hS
      have HS1':=Hd hS'
      clear hR hF hP hS hS' HR5 HF5 HP5 HS5
      by_cases hlt3:B≤n
      ·have e1:=Hd (show B=A+2 * s by omega)
       have L1:=Hd (show SortedOn LeR g A (A+s) by have h1:=HS1'.out.left (by have:=HA.out;omega);rw [← HA.out] at h1;exact h1)
       have L2:=Hd (show SortedOn LeR g (A+s) B by have h1:=HS1'.out.right (b:=B) (by have:=HA.out;omega) (by have:=HA.out;omega);rw [← HA.out] at h1;exact h1)
       go_wp2_with (go_at_call 170;rw [show (A:Int)+(s:Int)=((A+s:Nat):Int) by omega];refine (sym_ex n c pb tl hn _ g _ A (A+s) B (by omega) (by omega) hlt3 (Nat.lt_succ_self _) L1.out L2.out HR1.out).mono ?_;rintro e w2 ⟨rfl,hf2,g2,hr2,hg2⟩;have HR3:=Hd hr2;have HF3:=Hd hf2;have HG:=Hd hg2;clear hr2 hf2 hg2)
       have S2:=Hd (show PermOn 0 n f g2∧Runs0 LeR g2 (2 * s) (p+1)∧Runs LeR g2 s n (2 * (p+1)) by
        have h1:=HG.out
        rw [e1.out,HA.out] at h1
        exact ⟨HP1.out.trans ((HG.out.1).wide (Nat.zero_le _) hlt3),HS1.out.step h1.1 h1.2,HS1'.out.step h1.1⟩)
       go_roundw
       case rel=>exact ⟨p+1,B,B+2 * s,g2,rfl,by go_num,by omega,by omega,hlt3,Hd (by rw [e1.out,HA.out,Nat.add_mul,Nat.one_mul]),HR3.out,HF1.out.trans HF3.out,S2.out.1,S2.out.2.1,S2.out.2.2⟩
       case measure=>simp [intOf];omega
      ·by_cases hlt4:A+s<n
       ·have L1:=Hd (show SortedOn LeR g A (A+s) by have h1:=HS1'.out.left (by have:=HA.out;omega);rw [← HA.out] at h1;exact h1)
        have L2:=Hd (show SortedOn LeR g (A+s) n by have h1:=HS1'.out.right (b:=n) (by have:=HA.out;omega) (by have:=HA.out;omega);rw [← HA.out] at h1;exact h1)
        go_wp2_with (go_at_call 170;rw [show (A:Int)+(s:Int)=((A+s:Nat):Int) by omega];refine (sym_ex n c pb tl hn _ g _ A (A+s) n (by omega) hlt4 (Nat.le_refl _) (Nat.lt_succ_self _) L1.out L2.out HR1.out).mono ?_;rintro e w2 ⟨rfl,hf2,g2,hr2,hg2⟩;have HR3:=Hd hr2;have HF3:=Hd hf2;have HG:=Hd hg2;clear hr2 hf2 hg2)
        have S2:=Hd (show PermOn 0 n f g2∧Runs LeR g2 (2 * s) n 0 by
         have h1:=HG.out
         rw [HA.out] at h1
         exact ⟨HP1.out.trans ((HG.out.1).wide (Nat.zero_le _) (Nat.le_refl _)),HS1.out.last (by have:=HA.out;omega) (by have:=HA.out;omega) h1.1 h1.2⟩)
        go_roundw
        case rel=>exact ⟨2 * s,g2,by go_num,by omega,by omega,HR3.out,HF1.out.trans HF3.out,S2.out.1,S2.out.2⟩
        case measure=>simp [intOf];omega
       ·have S2:=Hd (show Runs LeR g (2 * s) n 0 from HS1'.out.last HS1.out (by have:=HA.out;omega) (by have:=HA.out;omega))
        go_wp2_with fail
        go_roundw
        case rel=>exact ⟨2 * s,g,by go_num,by omega,by omega,HR1.out,HF1.out,HP1.out,S2.out⟩
        case measure=>simp [intOf];omega
    ·go_wp2_with fail
     go_end0
     exact ⟨rfl,HF5.out,g3,HR5.out,HP5.out,HS5.out.all (by omega)⟩
theorem stable_ex (n c pb:Nat) (f:Nat→List Value) (tl:List Value) (w:World) (hn:n≤4294967296) (R:RowsF w pb n f tl) :
 Calls Tryz.prog 139 #[.slice (some ⟨pb,0,none⟩) n c,.func (.func 140) #[] #[]] w (SrtR pb n tl (fun g=>PermOn 0 n f g∧SortedOn LeR g 0 n) w):=by
 have HR:=Hd R
 clear R
 go_enter Tryz.func139,Tryz.ntmps139
 go_wp2_with (go_at_call 160;refine (stb_ex n c pb f tl _ hn HR.out).mono ?_;rintro e w2 ⟨rfl,hf2,g2,hr2,hg2⟩;have HR3:=Hd hr2;have HF3:=Hd hf2;have HG:=Hd hg2;clear hr2 hf2 hg2)
 go_end0
 exact ⟨rfl,HF3.out,g2,HR3.out,HG.out⟩
end Go.Proofs.YtniljgkkcnekgaaGreatDoor

/- The program's fields in the order of their keys (value.sorted): cloned, sorted. -/
namespace Go.Proofs.YtniljgkkcnekgaaGreatDoor
open Go.RowKit Stb
def FldQ (w:World) (B N:Nat) (l:List (ByteArray×ValD)) (f:Nat→List Value):Prop:=∀ k (hk:k<l.length),∃ cs,f k=.string l[k].1::cs∧l[k].1.size≤N∧ValD.At w B N l[k].2 cs
theorem FldQ.then {w w':World} {B N:Nat} {l:List (ByteArray×ValD)} {f:Nat→List Value} (h:FldQ w B N l f) (hb:Below w.heap.size w w') (hB:B≤w.heap.size):FldQ w' B N l f:=fun k hk=>by
 obtain ⟨cs,h1,h2,h3⟩:=h k hk
 exact ⟨cs,h1,h2,h3.below (hb.mono hB)⟩
theorem FldQ.len {w:World} {B N:Nat} {l:List (ByteArray×ValD)} {f:Nat→List Value} (h:FldQ w B N l f):∀ k,k<l.length→(f k).length=14:=fun k hk=>by
 obtain ⟨cs,h1,_,h3⟩:=h k hk
 obtain ⟨ya,la,va,yc,lc,vc,rfl,_⟩:=h3.row
 rw [h1]
 rfl
theorem FldQ.one {w:World} {B N:Nat} {l:List (ByteArray×ValD)} {f:Nat→List Value} (h:FldQ w B N l f):∀ k,k<l.length→∀ v∈f k,v.oneCell'=true:=fun k hk v hv=>by
 obtain ⟨cs,h1,_,h3⟩:=h k hk
 obtain ⟨ya,la,va,yc,lc,vc,rfl,_⟩:=h3.row
 rw [h1] at hv
 rcases List.mem_cons.1 hv with rfl | hv
 ·rfl
 ·simp [ValD.row] at hv
  rcases hv with rfl | rfl | rfl | rfl | rfl | rfl | rfl | rfl | rfl | rfl | rfl | rfl | rfl<;>rfl
theorem FldQ.key {w:World} {B N:Nat} {l:List (ByteArray×ValD)} {f:Nat→List Value} (h:FldQ w B N l f):∀ k (hk:k<l.length),keyR (f k)=l[k].1∧(f k)[0]?=some (.string (keyR (f k))):=fun k hk=>by
 obtain ⟨cs,h1,_,h3⟩:=h k hk
 rw [h1]
 exact ⟨rfl,rfl⟩
theorem FldQ.rows {w:World} {B N b:Nat} {l:List (ByteArray×ValD)} {f:Nat→List Value} {tl:List Value} (h:FldQ w B N l f) (hr:RowT 76 w b (flatR l.length f++tl)):RowsF w b l.length f tl:=⟨hr,h.len,h.one,fun k hk=>(h.key k hk).2⟩
theorem RowsF.fields {w:World} {b B N:Nat} {l:List (ByteArray×ValD)} {f:Nat→List Value} {tl:List Value} (R:RowsF w b l.length f tl) (h:FldQ w B N l f) (hb:b<B):FieldsAt w B N l (some ⟨b,0,none⟩) :=
 FieldsAt_of' hb l 0 fun i hi=>by
  obtain ⟨cs,h1,h2,h3⟩:=h i hi
  refine ⟨cs,h2,?_,h3⟩
  rw [Nat.zero_add,← h1]
  exact cellsOfRange (R.range hi)
theorem FieldsAt.rows {w:World} {B N:Nat} {l:List (ByteArray×ValD)} {a:Option Addr} (h:FieldsAt w B N l a) (hn:l≠[]):∃ b o f,a=some ⟨b,o,none⟩∧b<B∧FldQ w B N l f∧∀ k,k<l.length→CellsAt w b (o+k * 14) (f k):=by
 obtain ⟨b,o,h1,h2,h3⟩:=h.get hn
 refine ⟨b,o,fun k=>if hk:k<l.length then .string l[k].1::(h3 k hk).choose else [],h1,h2,fun k hk=>?_,fun k hk=>?_⟩
 ·exact ⟨(h3 k hk).choose,by simp [hk],(h3 k hk).choose_spec.1,(h3 k hk).choose_spec.2.2⟩
 ·simp only [hk,dite_true]
  exact (h3 k hk).choose_spec.2.1
theorem flat_cell {w:World} {b o n:Nat} {f:Nat→List Value} (hl:∀ k,k<n→(f k).length=14) (hc:∀ k,k<n→CellsAt w b (o+k * 14) (f k)) (j:Nat) (u:Value) (hu:(flatR n f)[j]?=some u):w.cell? ⟨b,o+j,none⟩=some u:=by
 have hj:j<n * 14:=by rw [← flatR_len hl];exact (List.getElem?_eq_some_iff.1 hu).1
 have e:j=j / 14 * 14+j % 14:=by omega
 rw [e,flatR_get hl (by omega) (by omega)] at hu
 have h1:=hc (j / 14) (by omega) (j % 14) (by rw [hl _ (by omega)];omega)
 rw [hu] at h1
 rw [show o+j=o+j / 14 * 14+j % 14 by omega]
 exact h1
theorem flat_one {n:Nat} {f:Nat→List Value} (h:∀ k,k<n→∀ v∈f k,v.oneCell'=true):∀ u∈flatR n f,u.oneCell'=true:=fun u hu=>by
 obtain ⟨k,hk,hu⟩:=List.mem_flatMap.1 hu
 exact h k (List.mem_range.1 hk) u hu
def ClnF (B N:Nat) (l:List (ByteArray×ValD)) (w:World) (e:Ending) (w':World):Prop :=
 Below w.heap.size w w'∧((l=[]∧e=.returned (.slice none 0 0))∨∃ g cap f tl,e=.returned (.slice (some ⟨g,0,none⟩) l.length cap)∧w.heap.size≤g∧RowsF w' g l.length f tl∧FldQ w' B N l f)
set_option maxRecDepth 100000 in
theorem clonef_ex (l:List (ByteArray×ValD)) (ya:Option Addr) (yc B N:Nat) (w:World) (hl:l.length≤4294967296) (hB:B≤w.heap.size) (hb:FieldsAt w B N l ya) :
 Calls Tryz.prog 138 #[.slice ya l.length yc] w (ClnF B N l w):=by
 have hnil:ya=none→l=[]:=fun h=>by
  subst h
  by_cases hn:l=[]
  ·exact hn
  ·obtain ⟨b,o,h1,_⟩:=hb.get hn
   cases h1
 obtain ⟨z,hzs,hinfo⟩:=infoF
 obtain ⟨i0,hi,hz0,hz1,hz2⟩:=info_parts hinfo
 have HI:=Hd hi
 have HZ0:=Hd hz0
 have HZ1:=Hd hz1
 have HZ2:=Hd hz2
 have HZS:=Hd hzs
 clear hi hz0 hz1 hz2 hinfo hzs
 have q26:∀ (w:World) (a:Option Addr) (n c n' c':Nat),(binOp .eql 37 (.slice a n c) (.slice none n' c')).run Tryz.prog w=.ok (.bool a.isNone) w:=fun w a n c n' c'=>Lib.run_eql_slice_nil w _ _ a n c n' c' Tryz.underlying37
 cases ya with
 | none =>
   have h0:=hnil rfl
   subst h0
   clear hb hnil
   go_enter Tryz.func138,Tryz.ntmps138
   go_wp2_with fail
   go_ret
   exact ⟨Below.refl _ _,.inl ⟨rfl,rfl⟩⟩
 | some ad =>
   have hF:∃ f,FldQ w B N l f∧∀ w':World,Below w.heap.size w w'→∀ j u,(flatR l.length f)[j]?=some u→w'.cell? (ad.add j)=some u:=by
    by_cases hn:l=[]
    ·subst hn
     exact ⟨fun _=>[],fun k hk=>(by simp at hk),fun w' hw j u hu=>(by simp [flatR] at hu)⟩
    ·obtain ⟨b,o,f,e,hlt,h1,h2⟩:=hb.rows hn
     cases e
     exact ⟨f,h1,fun w' hw j u hu=>by
      rw [Addr.add_mid]
      exact flat_cell h1.len (fun k hk=>(h2 k hk).below hw (by omega)) j u hu⟩
   obtain ⟨f,hf,hn⟩:=hF
   have HF:=Hd hf
   have HN:=Hd hn
   have HL:=Hd (flatR_len hf.len)
   have HO:=Hd (flat_one hf.one)
   obtain ⟨fl,hfl⟩:∃ fl,fl=flatR l.length f:=⟨_,rfl⟩
   have HFL:=Hd hfl
   rw [← hfl] at HN HL HO
   clear hf hn hfl hb hnil
   go_enter Tryz.func138,Tryz.ntmps138
   go_wp2_with (at_builtin;refine wpList_append_own _ rfl _ _ 37 rfl w.heap.size 76 i0 (.agg z) 14 184 Tryz.underlying37 HI.out HZ0.out HZ1.out HZ2.out HZS.out (by decide) _ _ _ rfl (World.ownsRow_made w #[] 0 (Nat.le_refl _) (Nat.zero_le _) rfl) ad l.length yc fl rfl HL.out (HN.out _ (belowBox w _)) HO.out ?qc4 ?qc5 ?qc6 ?_)
   case qc4=>unfold maxLen;omega
   case qc5=>omega
   case qc6=>simp
   intro v' w1 hown hgrow hnil2
   have HB:=Hd (show Below w.heap.size w w1 from (belowBox w _).grown hgrow (by simp) (by intro k hk;simp [Value.ownBlock] at hk;omega))
   have HQ:=Hd (show ∃ g cap tl,v'=.slice (some ⟨g,0,none⟩) l.length cap∧w.heap.size≤g∧RowT 76 w1 g (flatR l.length f++tl) by
    rcases hown.2 with ⟨h5,_⟩ | ⟨g,cap,cur,h5,h6,h7,_,_,h8,h9⟩
    ·exact absurd h5 hnil2
    ·refine ⟨g,cap,cur.toList.drop (l.length * 14),h5,h6,?_⟩
     unfold RowT
     rw [h7]
     rw [← HFL.out,← h9,List.take_append_drop])
   clear hown hgrow hnil2
   obtain ⟨g,cap,tl,hv,hg,hr⟩:=HQ.out
   subst hv
   have HR:=Hd hr
   have HG:=Hd hg
   clear HQ hr hg
   go_wp2_with fail
   go_ret
   have hfw:=HF.out.then HB.out hB
   exact ⟨HB.out,.inr ⟨g,cap,f,tl,rfl,HG.out,hfw.rows HR.out,hfw⟩⟩
theorem ins0_ex (w:World):Calls Tryz.prog 169 #[.slice none 0 0,.int .i64 0,.int .i64 0,.func (.func 140) #[] #[]] w (fun e w'=>e=.returned (.tuple #[])∧w'=w):=by
 go_enter Tryz.func169,Tryz.ntmps169
 go_wp2_with fail
 go_loopw [8] (fun x wr=>x=.int .i64 1∧wr=w) (fun _ _=>0)
 case atStart=>exact ⟨rfl,rfl⟩
 case round =>
  obtain ⟨rfl,rfl⟩:=hrel
  go_wp2_with fail
  go_end0
  exact ⟨rfl,rfl⟩
theorem stb0_ex (w:World):Calls Tryz.prog 160 #[.slice none 0 0,.int .i64 0,.func (.func 140) #[] #[]] w (fun e w'=>e=.returned (.tuple #[])∧w'=w):=by
 go_enter Tryz.func160,Tryz.ntmps160
 go_wp2_with fail
 go_loopw [7,8] (fun x y wr=>x=.int .i64 0∧y=.int .i64 20∧wr=w) (fun _ _ _=>0)
 case atStart=>exact ⟨rfl,rfl,rfl⟩
 case round =>
  obtain ⟨rfl,rfl,rfl⟩:=hrel
  go_wp2_with (go_at_call 169;refine (ins0_ex _).mono ?_;rintro e w2 ⟨rfl,rfl⟩)
  go_loopw [6] (fun z wr=>z=.int .i64 20∧wr=w2) (fun _ _=>0)
  case atStart=>exact ⟨rfl,rfl⟩
  case round =>
   obtain ⟨rfl,rfl⟩:=hrel
   go_wp2_with fail
   go_end0
   exact ⟨rfl,rfl⟩
theorem stable0_ex (w:World):Calls Tryz.prog 139 #[.slice none 0 0,.func (.func 140) #[] #[]] w (fun e w'=>e=.returned (.tuple #[])∧w'=w):=by
 go_enter Tryz.func139,Tryz.ntmps139
 go_wp2_with (go_at_call 160;refine (stb0_ex _).mono ?_;rintro e w2 ⟨rfl,rfl⟩)
 go_end0
 exact ⟨rfl,rfl⟩
theorem FldQ.low {w w':World} {B N:Nat} {l:List (ByteArray×ValD)} {f:Nat→List Value} (h:FldQ w B N l f) (hb:Below B w w') (hB:B≤w'.heap.size):FldQ w' w'.heap.size N l f:=fun k hk=>by
 obtain ⟨cs,h1,h2,h3⟩:=h k hk
 exact ⟨cs,h1,h2,(h3.below hb).mono hB⟩
end Go.Proofs.YtniljgkkcnekgaaGreatDoor

/- The reference's fields in the order of their keys (datakitref07.Fields): by insertion. -/
namespace Go.Proofs.YtniljgkkcnekgaaGreatDoor
open Go.RowKit Stb
theorem flatR_congr {n:Nat} {f g:Nat→List Value} (h:∀ k,k<n→f k=g k):flatR n f=flatR n g:=by
 unfold flatR
 rw [List.flatMap_def,List.flatMap_def]
 congr 1
 exact List.map_congr_left fun k hk=>h k (List.mem_range.1 hk)
theorem flatR_ins (k m:Nat) (f g:Nat→List Value) (r:List Value):flatR k f++r++flatR m g=flatR (k+1+m) (fun j=>if j<k then f j else if j=k then r else g (j-(k+1))):=by
 induction m with
 | zero =>
   rw [show flatR 0 g=[] from rfl,List.append_nil,Nat.add_zero,flatR_s,if_neg (by omega),if_pos rfl]
   congr 1
   exact flatR_congr fun j hj=>(if_pos hj).symm
 | succ m ih =>
   rw [flatR_s,← List.append_assoc,ih,show k+1+(m+1)=k+1+m+1 by omega,flatR_s,if_neg (by omega),if_neg (by omega),show k+1+m-(k+1)=m by omega]
theorem cells_part {w:World} {b o n k m:Nat} {f:Nat→List Value} (hc:∀ j,j<n→CellsAt w b (o+j * 14) (f j)) (hk:k+m≤n):∀ j,j<m→CellsAt w b (o+k * 14+j * 14) (f (k+j)):=fun j hj=>by
 have:=hc (k+j) (by omega)
 rw [Nat.add_mul,← Nat.add_assoc] at this
 exact this
theorem flat_agg (rows:List (List Value)):((rows.map fun r=>Value.agg r.toArray).flatMap fun v=>v.cells.toList)=rows.flatten:=by
 rw [List.flatMap_map]
 simp only [Value.cells,List.flatMap]
 rw [List.map_id']
theorem wp_rowsF {o:Oper} {a:Act} {w:World} {K:Act→World→Prop} {Q:Exit→Act→World→Prop} (rows:List (List Value)) (fl:List Value) (hfl:rows.flatten=fl) (len:Nat) (parts:Array (Nat×Operand)) (ho:o.op=.buildSlice 37 len parts)
 (hlen:rows.length=len) (hpos:0<len) (hle:len≤1000) (h14:∀ r∈rows,r.length=14) (hp:(parts.map fun (i,x)=>(i,a.eval x)).toList=((rows.map fun r=>Value.agg r.toArray).zipIdx 0).map fun x=>(x.2,x.1))
 (h:K (a.put o.dst (.slice (some ⟨w.heap.size,0,none⟩) len len)) (w.alloc (.cells fl.toArray 76))):o.wp Tryz.prog a w K Q:=by
 subst hfl
 obtain ⟨z,hz,hi⟩:=infoF
 cases hie:Tryz.prog.info? 76 with
 | none=>rw [hie] at hi;cases hi
 | some ie =>
   rw [hie] at hi
   simp only [Option.map_some,Option.some.injEq,Prod.mk.injEq] at hi
   obtain ⟨h1,h2,_⟩:=hi
   refine wp_buildSlice 37 76 len parts ho rows.flatten.toArray ie (.agg z) Tryz.underlying37 hie h1 (by rw [h2];omega) (by rw [h2];omega) ?_ h
   have e:=Great.fill_whole (s:=14) (by decide) (rows.map fun r=>Value.agg r.toArray) ((Array.range (len * 14)).map ((Value.agg z).cells[· % (Value.agg z).cells.size]!)) (fun v hv=>by
    obtain ⟨r,hr,rfl⟩:=List.mem_map.1 hv
    show r.toArray.size=14
    rw [List.size_toArray]
    exact h14 r hr) (by simp [hlen])
   rw [flat_agg] at e
   rw [hp,h2]
   exact e
theorem wpList_rowsF {ops:Array Oper} {rest:List Oper} {o:Oper} {a:Act} {w:World} {Q:Exit→Act→World→Prop} (hg:o.guard=none) (rows:List (List Value)) (fl:List Value) (hfl:rows.flatten=fl) (len:Nat) (parts:Array (Nat×Operand)) (ho:o.op=.buildSlice 37 len parts)
 (hlen:rows.length=len) (hpos:0<len) (hle:len≤1000) (h14:∀ r∈rows,r.length=14) (hp:(parts.map fun (i,x)=>(i,a.eval x)).toList=((rows.map fun r=>Value.agg r.toArray).zipIdx 0).map fun x=>(x.2,x.1))
 (h:wpList Tryz.prog ops Q rest (a.put o.dst (.slice (some ⟨w.heap.size,0,none⟩) len len)) (w.alloc (.cells fl.toArray 76))):wpList Tryz.prog ops Q (o::rest) a w :=
 wpList_plain hg fun _ hK=>wp_rowsF rows fl hfl len parts ho hlen hpos hle h14 hp (hK _ _ h)
theorem run_append_nil {P:Program} (w:World) (base:Nat) (t ty e:TypeId) (i:TypeInfo) (size:Nat) (ht:P.underlying t=some (.slice e)) (hi:P.info? e=some i)
 (v:Value) (n:Nat) (xs:List Value) (hown:w.ownsRow base e size v n xs) (c:Nat):(Builtin.append_ #[t,t] ty #[v,.slice none 0 c]).run P w=.ok v w:=by
 rcases hown.2 with ⟨rfl,rfl⟩ | ⟨g,cap,cur,rfl,_,_,hnc,_⟩
 ·simp [Builtin.append_,run_underlying ht,sizeOf,typeInfo,hi,Builtin.lenOf,Builtin.firstCells]
 ·simp [Builtin.append_,run_underlying ht,sizeOf,typeInfo,hi,Builtin.lenOf,Builtin.firstCells,hnc,storeCells]
theorem wpList_append_nil {P:Program} {w:World} {ops:Array Oper} {rest:List Oper} {o:Oper} {a:Act} {Q:Exit→Act→World→Prop} (hgd:o.guard=none) (s x:Operand) (t:TypeId)
 (ho:o.op=.call { callee:=.builtin .append,args:=#[s,x],argTypes:=#[t,t] })
 (base:Nat) (e:TypeId) (i:TypeInfo) (size:Nat) (ht:P.underlying t=some (.slice e)) (hi:P.info? e=some i)
 (v:Value) (n:Nat) (xs:List Value) (hs:a.eval s=v) (hown:w.ownsRow base e size v n xs) (c:Nat) (hx:a.eval x=.slice none 0 c)
 (h:wpList P ops Q rest (a.put o.dst v) w):wpList P ops Q (o::rest) a w:=by
 refine wpList_plain hgd fun K hK=>?_
 have hrun:=run_append_nil (P:=P) w base t o.type e i size ht hi v n xs hown c
 unfold Oper.wp
 simp [execOp,ho,resolve,invoke,builtin,hs,hx,hrun,Result.andThen]
 exact hK _ _ h
theorem leq_F (a b:ByteArray):(Op.bytesLess a.toList b.toList || a.toList==b.toList)=decide (¬ b.data.toList<a.data.toList):=by
 rw [Go.Proofs.bytesLess_eq,ByteArray.toList_eq,ByteArray.toList_eq]
 apply Bool.eq_iff_iff.2
 simp only [Bool.or_eq_true,decide_eq_true_eq,beq_iff_eq]
 constructor
 ·rintro (h | h)
  ·exact fun h2=>List.lt_asymm h h2
  ·rw [h];exact List.lt_irrefl _
 ·intro h
  by_cases h2:a.data.toList=b.data.toList
  ·exact .inr h2
  ·exact .inl (list_lt' h (fun e=>h2 e.symm))
theorem drewNU (w:World) (n:Nat) {B:Nat}:Below B w (w.drewN n):=⟨rfl,rfl,rfl,Nat.le_refl _,fun _ _=>rfl⟩
theorem belowBox' (w:World) (o:Obj) {B:Nat} (h:B≤w.heap.size):Below B w (w.alloc o):=(belowBox w o).mono h
theorem new_cells (w:World) (cs:List Value) (t:TypeId) (j:Nat) (u:Value) (hu:cs[j]?=some u):(w.alloc (.cells cs.toArray t)).cell? (Addr.add ⟨w.heap.size,0,none⟩ j)=some u:=by
 rw [Addr.add_mid,Nat.zero_add,World.cell?_alloc_new]
 simpa using hu
end Go.Proofs.YtniljgkkcnekgaaGreatDoor
