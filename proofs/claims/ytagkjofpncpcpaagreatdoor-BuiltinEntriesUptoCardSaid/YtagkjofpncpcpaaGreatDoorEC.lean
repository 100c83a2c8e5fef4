/- Rows of a slice of the call's own whose values reach blocks that the call has made: each row has its own stretch of blocks, which the slice's block and the boxes lie outside of. -/
import Derived.Test.YtagkjofpncpcpaaGreatDoorProg
import Derived.Test.YtagkjofpncpcpaaGreatDoorGA
import Derived.Test.YtagkjofpncpcpaaGreatDoorGB
import Derived.Test.YtagkjofpncpcpaaGreatDoorGC
import Derived.Test.YtagkjofpncpcpaaGreatDoorGD
import Derived.Test.YtagkjofpncpcpaaGreatDoorRow36
import Derived.Test.YtagkjofpncpcpaaGreatDoorXA
import Derived.Test.YtagkjofpncpcpaaGreatDoorXD
import Derived.Test.YtagkjofpncpcpaaGreatDoorXE
import Derived.Test.YtagkjofpncpcpaaGreatDoorXI
import Derived.Test.YtagkjofpncpcpaaGreatDoorXK
import Derived.Test.YtagkjofpncpcpaaGreatDoorAD
import Derived.Test.YtagkjofpncpcpaaGreatDoorAE
import Derived.Test.YtagkjofpncpcpaaGreatDoorJA
import Derived.Test.YtagkjofpncpcpaaGreatDoorEA
import Derived.Laws.Tables
namespace Go.Proofs.YtagkjofpncpcpaaGreatDoor
open Go.RowKit
def Kept (B S E:Nat) (w:World) (P:World→Prop):Prop:=∀ c:World,c.os=w.os→c.tape=w.tape→c.output=w.output→w.heap.size≤c.heap.size→(∀ q,q<w.heap.size→q<B∨(S≤q∧q<E)→c.heap[q]?=w.heap[q]?)→P c
section
variable {B S E T:Nat} {w c:World} {P:World→Prop} {α:Type} {sz:Nat} {At:World→α→List Value→Prop} {own own':Option Nat} {l:List α} {xs:List Value}
theorem Kept.here (h:Kept B S E w P):P w:=h w rfl rfl rfl (Nat.le_refl _) fun _ _ _=>rfl
theorem Kept.of_solid (h:Solid B S w P):Kept B S w.heap.size w P:=fun c h1 h2 h3 h4 h5=>h c ⟨h1,h2,h3,h4,fun q hq ho=>h5 q hq (ho.imp_right fun h=>⟨h,hq⟩)⟩
theorem Kept.step (h:Kept B S E w P) (h1:c.os=w.os) (h2:c.tape=w.tape) (h3:c.output=w.output) (h4:w.heap.size≤c.heap.size) (h5:∀ q,q<w.heap.size→q<B∨(S≤q∧q<E)→c.heap[q]?=w.heap[q]?):Kept B S E c P :=
 fun d k1 k2 k3 k4 k5=>h d (k1.trans h1) (k2.trans h2) (k3.trans h3) (Nat.le_trans h4 k4) fun q hq ho=>(k5 q (Nat.lt_of_lt_of_le hq h4) ho).trans (h5 q hq ho)
theorem Kept.imp {Q:World→Prop} (h:Kept B S E w P) (hi:∀ c,P c→Q c):Kept B S E w Q:=fun c h1 h2 h3 h4 h5=>hi c (h c h1 h2 h3 h4 h5)
theorem Kept.below (h:Kept B S E w P) (hb:Below w.heap.size w c):Kept B S E c P:=h.step hb.os hb.tape hb.output hb.size fun q hq _=>hb.block q hq
def RowsG (sz:Nat) (At:World→α→List Value→Prop) (B T:Nat) (w:World) (own:Option Nat) (l:List α) (xs:List Value):Prop :=
 xs.length=l.length * sz∧∀ i (hi:i<l.length),∃ S E,T≤S∧E≤w.heap.size∧(∀ q,own=some q→q<S∨E≤q)∧Kept B S E w (fun c=>At c l[i] ((xs.drop (i * sz)).take sz))
theorem RowsG.nil:RowsG sz At B T w own [] []:=⟨by simp,fun _ hi=>absurd hi (Nat.not_lt_zero _)⟩
theorem RowsG.step (h:RowsG sz At B T w own l xs) (h1:c.os=w.os) (h2:c.tape=w.tape) (h3:c.output=w.output) (h4:w.heap.size≤c.heap.size)
 (h5:∀ q,q<w.heap.size→q<B∨(T≤q∧own≠some q)→c.heap[q]?=w.heap[q]?) (ho:own'=own∨∃ q,own'=some q∧w.heap.size≤q):RowsG sz At B T c own' l xs :=
 ⟨h.1,fun i hi=>by
  obtain ⟨S,E,a1,a2,a3,a4⟩:=h.2 i hi
  refine ⟨S,E,a1,Nat.le_trans a2 h4,fun q hq=>?_,a4.step h1 h2 h3 h4 fun q hq hor=>h5 q hq (hor.imp_right fun k=>⟨Nat.le_trans a1 k.1,fun e=>?_⟩)⟩
  ·rcases ho with e | ⟨p,e,hp⟩
   ·exact a3 q (e ▸ hq)
   ·rw [e] at hq
    cases hq
    exact .inr (Nat.le_trans a2 hp)
  ·rcases a3 q e with k2 | k2
   ·exact absurd k.1 (Nat.not_le.2 k2)
   ·exact absurd k.2 (Nat.not_lt.2 k2)⟩
theorem RowsG.below (h:RowsG sz At B T w own l xs) (hb:Below w.heap.size w c):RowsG sz At B T c own l xs:=h.step hb.os hb.tape hb.output hb.size (fun q hq _=>hb.block q hq) (.inl rfl)
theorem RowsG.grown (h:RowsG sz At B T w own l xs) (hg:w.grownBy c own) (hB:∀ q,own=some q→B≤q) (hat:own'=own∨own'=some w.heap.size):RowsG sz At B T c own' l xs :=
 h.step hg.os hg.tape hg.output hg.size (fun q hq hor=>hg.block q hq fun e=>by
  rcases hor with k | k
  ·have:=hB q e.symm
   omega
  ·exact k.2 e.symm) (hat.imp_right fun e=>⟨_,e,Nat.le_refl _⟩)
theorem RowsG.setRow {g:Nat} {cs:Array Value} (h:RowsG sz At B T w own l xs) (h1:B≤g) (h2:g<T):RowsG sz At B T (w.setRow g cs) own l xs :=
 h.step rfl rfl rfl (by simp) (fun q _ hor=>setRow_other _ _ _ _ (by rcases hor with k | k<;>omega)) (.inl rfl)
theorem RowsG.push {x:α} {cs:List Value} (h:RowsG sz At B T w own l xs) (hl:cs.length=sz) (hT:T≤S) (hE:E≤w.heap.size) (ho:∀ q,own=some q→q<S∨E≤q) (hk:Kept B S E w (fun c=>At c x cs)) :
 RowsG sz At B T w own (l++[x]) (xs++cs):=by
 refine ⟨by rw [List.length_append,List.length_append,h.1,hl,List.length_singleton,Nat.add_mul,Nat.one_mul],fun i hi=>?_⟩
 by_cases h1:i<l.length
 ·obtain ⟨S,E,a1,a2,a3,a4⟩:=h.2 i h1
  refine ⟨S,E,a1,a2,a3,?_⟩
  have e:(l++[x])[i]=l[i]:=List.getElem_append_left h1
  have hm:i * sz+sz≤xs.length:=by
   rw [h.1]
   have:=Nat.mul_le_mul_right sz (show i+1≤l.length from h1)
   rw [Nat.add_mul,Nat.one_mul] at this
   exact this
  rw [e,List.drop_append_of_le_length (by omega),List.take_append_of_le_length (by rw [List.length_drop];omega)]
  exact a4
 ·have hi2:i=l.length:=by rw [List.length_append,List.length_singleton] at hi;omega
  subst hi2
  refine ⟨S,E,hT,hE,ho,?_⟩
  have e:(l++[x])[l.length]=x:=by simp
  rw [e,← h.1,List.drop_left,List.take_of_length_le (by omega)]
  exact hk
theorem RowsG.done (h:RowsG sz At B T w own l xs):∀ i (hi:i<l.length),At w l[i] ((xs.drop (i * sz)).take sz):=fun i hi=>by
 obtain ⟨S,E,_,_,_,a4⟩:=h.2 i hi
 exact a4.here
end
def rowVE (N:Nat) (c:World) (x:ValD) (cs:List Value):Prop:=ValD.At c c.heap.size N x cs
def rowFE (N:Nat) (c:World) (f:ByteArray×ValD) (cs:List Value):Prop:=∃ ds,cs=.string f.1::ds∧f.1.size≤N∧ValD.At c c.heap.size N f.2 ds
end Go.Proofs.YtagkjofpncpcpaaGreatDoor

/- The literal of a field (a key and a value): what its operation builds. -/
namespace Go.Proofs.YtagkjofpncpcpaaGreatDoor
open Go.RowKit
theorem fold_zip_f (d:Nat):∀ (cs:List Value) (n:Nat) (Z:Array Value),List.foldl (fun (a:Array Value) (x:Value×Nat)=>a.setIfInBounds (d+x.2) x.1) Z (cs.zipIdx n)=List.foldl (fun (a:Array Value) (x:Value×Nat)=>a.setIfInBounds x.2 x.1) Z (cs.zipIdx (d+n))
 | [],_,_=>rfl
 | c::cs,n,Z=>by
   rw [List.zipIdx_cons,List.zipIdx_cons,List.foldl_cons,List.foldl_cons,fold_zip_f d cs (n+1)]
   rfl
theorem fold_mid_f:∀ (cs:List Value) (n:Nat) (Z:Array Value),n+cs.length≤Z.size→List.foldl (fun (a:Array Value) (x:Value×Nat)=>a.setIfInBounds x.2 x.1) Z (cs.zipIdx n)=(Z.toList.take n++cs++Z.toList.drop (n+cs.length)).toArray
 | [],n,Z,_=>by simp
 | c::cs,n,Z,h=>by
   rw [List.zipIdx_cons,List.foldl_cons,fold_mid_f cs (n+1) _ (by simp at h ⊢;omega)]
   have e:=list_seg_step Z.toList n c cs (by simp at h ⊢;omega)
   simp only [Array.toList_setIfInBounds]
   rw [e,List.length_cons]
def placesF:Array (Nat×Nat):=#[(0,1),(1,13)]
theorem fillF_0 (k:ByteArray) (r:List (Nat×Value)):Instr.fill (placesF[·]?) zeroF ((0,.string k)::r)=Instr.fill (placesF[·]?) (Value.string k::zeroV.toList).toArray r:=rfl
theorem fold_fld (k:ByteArray) (cs:List Value) (h:cs.length=13):List.foldl (fun (a:Array Value) (x:Value×Nat)=>a.setIfInBounds (1+x.2) x.1) (Value.string k::zeroV.toList).toArray cs.zipIdx=(Value.string k::cs).toArray:=by
 rw [fold_zip_f 1,fold_mid_f cs 1 _ (by rw [h];exact (by decide:1+13≤14)),h]
 simp [zeroV]
theorem fillF_1 (k:ByteArray) (cs:List Value) (h:cs.length=13):Instr.fill (placesF[·]?) (Value.string k::zeroV.toList).toArray [(1,.agg cs.toArray)]=some (Value.string k::cs).toArray:=by
 have hs:(Value.string k::zeroV.toList).toArray.size=14:=rfl
 have hc:(Value.agg cs.toArray).cells=cs.toArray:=rfl
 have hp:placesF[1]?=some (1,13):=rfl
 rw [Instr.fill]
 simp only [hp,hc,hs,List.size_toArray,h]
 rw [if_neg (by decide)]
 have e:=fold_fld k cs h
 rw [← Array.foldl_toList,Array.toList_zipIdx]
 exact congrArg (fun z=>Instr.fill (placesF[·]?) z []) e
theorem builtF (k:ByteArray) (cs:List Value) (h:cs.length=13):Tryz.prog.built 41 [(0,.string k),(1,.agg cs.toArray)]=some (Value.string k::cs).toArray:=by
 have p1:(Tryz.prog.info? 41).bind (·.zero)=some (.agg zeroF):=by kernel_rfl
 have p2:(Tryz.prog.fieldsOf 41).toList.mapM (fun f=>(Tryz.prog.info? f.type).map fun i=>(f.offset,i.size))=some [(0,1),(1,13)]:=by kernel_rfl
 have hu:Tryz.prog.underlying 41=some (.struct (Tryz.prog.fieldsOf 41)):=by kernel_rfl
 cases hi:Tryz.prog.info? 41 with
 | none=>rw [hi] at p1;cases p1
 | some it =>
   rw [hi] at p1
   have p1':it.zero=some (.agg zeroF):=p1
   unfold Program.built
   rw [hi,hu]
   simp only [p1',p2]
   show Instr.fill (placesF[·]?) zeroF _=_
   rw [fillF_0,fillF_1 k cs h]
theorem wp_builtF {P:Program} {o:Oper} {a:Act} {w:World} {K:Act→World→Prop} {Q:Exit→Act→World→Prop} (t:TypeId) (parts:Array (Nat×Operand)) (ho:o.op=.build t parts) (cells:Array Value)
 (hf:P.built t (parts.map fun (i,x)=>(i,a.eval x)).toList=some cells) (h:K (a.put o.dst (.agg cells)) w):o.wp P a w K Q :=
 wp_build t parts ho (by rw [hf];rfl) (by rw [hf];exact h)
end Go.Proofs.YtagkjofpncpcpaaGreatDoor

/- builtin.entry: a key and a value as a map of two fields. -/
namespace Go.Proofs.YtagkjofpncpcpaaGreatDoor
open Go.RowKit
def mapE (l:List (ByteArray×ValD)) (a:Option Addr) (c:Nat):List Value:=[.int .i64 7,.bool false,.bool false,.string ⟨#[]⟩,.int .i64 0,.int .i64 0,.int .i64 0,.int .i64 0,.int .i64 0,.string ⟨#[]⟩,.slice none 0 0,.slice none 0 0,.slice a l.length c]
theorem mapE_at {w:World} {B N:Nat} {l:List (ByteArray×ValD)} {a:Option Addr} (c:Nat) (hl:l.length≤N) (h:FieldsAt w B N l a):ValD.At w B N (mapD l) (mapE l a c) :=
 ⟨none,none,a,0,0,c,rfl,⟨⟨by show (-9223372036854775808:Int)≤7;omega,by show (7:Int)≤_;omega⟩,i64_0,i64_0,i64_0,i64_0,i64_0,Nat.zero_le _,Nat.zero_le _,Nat.zero_le _,Nat.zero_le _,hl⟩,.inl rfl,trivial,h⟩
theorem mapE_one (l:List (ByteArray×ValD)) (a:Option Addr) (c:Nat):∀ v∈mapE l a c,v.oneCell'=true:=fun v hv=>by
 simp [mapE] at hv
 rcases hv with rfl | rfl | rfl | rfl | rfl | rfl | rfl | rfl<;>rfl
def entC (k:ByteArray) (cs:List Value):List Value:=(.string keyB::textR k)++(.string valB::cs)
def EntR (k:ByteArray) (x:ValD) (B N:Nat) (w:World) (e:Ending) (w':World):Prop:=∃ cs,e=.returned (.agg cs.toArray)∧Solid B w.heap.size w' (fun c=>ValD.At c c.heap.size N (entD k x) cs)∧Below w.heap.size w w'
set_option maxRecDepth 100000 in
set_option maxHeartbeats 3200000 in
theorem entry_p (k:ByteArray) (x:ValD) (w:World) (B N:Nat) (cs:List Value) (hN5:5≤N) (hk:k.size≤N) (hB:B≤w.heap.size) (hv:ValD.At w B N x cs) :
 Calls Tryz.prog 70 #[.string k,.agg cs.toArray] w (EntR k x B N w):=by
 have hz1:=Hd (show (Tryz.prog.info? 30).map (·.size)=some cs.length by rw [hv.len];exact sizeV)
 have hlen:=hv.len
 have HV:=Hd hv
 have BF:=Hd (builtF valB cs hv.len)
 have BK:=Hd (builtF keyB (textR k) rfl)
 have HT0:=Hd (show Below w.heap.size w ((w.alloc (.cells cs.toArray 30)).alloc (.cells #[.int .i64 0,.bool false,.bool false,.string ⟨#[]⟩,.int .i64 0,.int .i64 0,.int .i64 0,.int .i64 0,.int .i64 0,.string ⟨#[]⟩,.slice none 0 0,.slice none 0 0,.slice none 0 0] 30))∧RowT 30 ((w.alloc (.cells cs.toArray 30)).alloc (.cells #[.int .i64 0,.bool false,.bool false,.string ⟨#[]⟩,.int .i64 0,.int .i64 0,.int .i64 0,.int .i64 0,.int .i64 0,.string ⟨#[]⟩,.slice none 0 0,.slice none 0 0,.slice none 0 0] 30)) w.heap.size cs∧RowAt ((w.alloc (.cells cs.toArray 30)).alloc (.cells #[.int .i64 0,.bool false,.bool false,.string ⟨#[]⟩,.int .i64 0,.int .i64 0,.int .i64 0,.int .i64 0,.int .i64 0,.string ⟨#[]⟩,.slice none 0 0,.slice none 0 0,.slice none 0 0] 30)) (w.heap.size+1) zeroV.toList from by
  refine ⟨belowThen (belowBox w _) (belowBox _ _),(RowT.new w 30 cs).alloc _,?_⟩
  have h:=heap_alloc_new (w.alloc (.cells cs.toArray 30)) (.cells #[.int .i64 0,.bool false,.bool false,.string ⟨#[]⟩,.int .i64 0,.int .i64 0,.int .i64 0,.int .i64 0,.int .i64 0,.string ⟨#[]⟩,.slice none 0 0,.slice none 0 0,.slice none 0 0] 30)
  rw [World.size_alloc] at h
  exact h)
 have HS0:=Hd (show ((w.alloc (.cells cs.toArray 30)).alloc (.cells #[.int .i64 0,.bool false,.bool false,.string ⟨#[]⟩,.int .i64 0,.int .i64 0,.int .i64 0,.int .i64 0,.int .i64 0,.string ⟨#[]⟩,.slice none 0 0,.slice none 0 0,.slice none 0 0] 30)).heap.size=w.heap.size+2 by rw [World.size_alloc,World.size_alloc])
 clear hv
 go_enter Tryz.func70,Tryz.ntmps70
 go_upto_region 1 with fail
 refine wp_region_held_drew (S:=fun q=>Below w.heap.size w q∧RowT 30 q w.heap.size cs) (by kernel_rfl) ⟨HT0.out.1.trans (drewB _),HT0.out.2.1.drew⟩ (fun hHeld=>?_)
 have HZ0:=Hd (show RowT 30 ((w.alloc (.cells cs.toArray 30)).alloc (.cells #[.int .i64 0,.bool false,.bool false,.string ⟨#[]⟩,.int .i64 0,.int .i64 0,.int .i64 0,.int .i64 0,.int .i64 0,.string ⟨#[]⟩,.slice none 0 0,.slice none 0 0,.slice none 0 0] 30)).drew (w.heap.size+1) zeroV.toList from HT0.out.2.2)
 have HS1:=Hd (show ((w.alloc (.cells cs.toArray 30)).alloc (.cells #[.int .i64 0,.bool false,.bool false,.string ⟨#[]⟩,.int .i64 0,.int .i64 0,.int .i64 0,.int .i64 0,.int .i64 0,.string ⟨#[]⟩,.slice none 0 0,.slice none 0 0,.slice none 0 0] 30)).drew.heap.size=w.heap.size+2 from HS0.out)
 refine wpAnyH_takeU (i:=0) (v:=.string k) 5 rfl rfl (by kernel_rfl) (by kernel_rfl) (by kernel_rfl) (fun _ _ _ h=>h) (Or.inl ⟨by kernel_rfl,fun u hu=>by go_simp⟩) (by assumption) ?_
 simp only [sq1,sq0]
 refine wpAnyH_takeU (i:=3) (v:=.agg cs.toArray) 8 rfl rfl (by kernel_rfl) (by kernel_rfl) (by kernel_rfl) (fun _ _ _ h=>h) ?_ (by assumption) ?_
 ·exact yieldsIf_load_mid (by kernel_rfl) 30 _ rfl w.heap.size 0 (by kernel_rfl) cs _ (fun u hu=>hu.2.range) Tryz.underlying30 rfl hz1.out
 simp only [sq1,sq0]
 refine wpAnyH_takeU (i:=4) (v:=.agg (.string valB::cs).toArray) 9 rfl rfl (by kernel_rfl) (by kernel_rfl) (by kernel_rfl) (fun _ _ _ h=>h) (Or.inl ⟨by kernel_rfl,fun u hu=>by go_simp;exact fold_fld valB cs hlen⟩) (by assumption) ?_
 simp only [sq1,sq0]
 refine rd1 1 rfl (fun K hK=>?_)
 go_simp
 refine (text_prog k _).mono ?_
 rintro e w3 ⟨rfl,hb3⟩
 have hHE:Below w.heap.size w w3∧RowT 30 w3 w.heap.size cs:=⟨belowThen hHeld.1 hb3,hHeld.2.then hb3⟩
 have ZE:=Hd (HZ0.out.then hb3)
 have HS3:=Hd (show w.heap.size+2≤w3.heap.size by have h:=hb3.size;rw [HS1.out] at h;exact h)
 refine hK.out _ _ hHE (fun _=>?_)
 clear hK K hb3 hHeld
 try dsimp only
 refine wpAnyH_takeU (i:=2) (v:=.agg (.string keyB::textR k).toArray) 7 rfl rfl (by kernel_rfl) (by kernel_rfl) (by kernel_rfl) (fun _ _ _ h=>h) (Or.inl ⟨by kernel_rfl,fun u hu=>by first | (go_simp;done) | (go_simp;rfl)⟩) (by assumption) ?_
 simp only [sq1,sq0]
 refine rd1 5 rfl (fun K hK=>?_)
 rw [if_pos (by rfl)]
 refine wp_rowsF [(.string keyB::textR k),(.string valB::cs)] (entC k cs) (by simp [entC]) 2 _ rfl rfl (by decide) (by decide) (fun r hr=>by simp at hr;rcases hr with rfl | rfl<;>simp [hlen,textR]) (by rw [List.map_toArray];rfl) ?_
 have hHA:Below w.heap.size w (w3.alloc (.cells (entC k cs).toArray 41))∧RowT 30 (w3.alloc (.cells (entC k cs).toArray 41)) w.heap.size cs:=⟨belowThen hHE.1 (belowBox _ _),hHE.2.alloc _⟩
 have ZA:=Hd (ZE.out.alloc (.cells (entC k cs).toArray 41))
 have HBK:=Hd (show (w3.alloc (.cells (entC k cs).toArray 41)).heap[w3.heap.size]?=some (.cells (entC k cs).toArray 41) from heap_alloc_new w3 _)
 refine hK.out _ _ hHA (fun _=>?_)
 clear hK K hHE
 try dsimp only
 refine wpAnyH_takeU (i:=6) (v:=.agg (mapE [(keyB,textD k),(valB,x)] (some ⟨w3.heap.size,0,none⟩) 2).toArray) 11 rfl rfl (by kernel_rfl) (by kernel_rfl) (by kernel_rfl) (fun _ _ _ h=>h) (Or.inl ⟨by kernel_rfl,fun u hu=>by first | (go_simp;done) | (go_simp;rfl)⟩) (by assumption) ?_
 simp only [sq1,sq0]
 have hl13:(mapE [(keyB,textD k),(valB,x)] (some ⟨w3.heap.size,0,none⟩) 2).length=13:=rfl
 refine rd1 7 rfl (fun K hK=>?_)
 rw [if_pos (by rfl)]
 refine wp_store_atL rfl 30 _ _ rfl (w.heap.size+1) 0 (mapE [(keyB,textD k),(valB,x)] (some ⟨w3.heap.size,0,none⟩) 2) rfl rfl 30 _ (mapE [(keyB,textD k),(valB,x)] (some ⟨w3.heap.size,0,none⟩) 2) ZA.out (by rw [hl13];exact sizeV) (row_new hl13 rfl) (by rw [hl13];exact Nat.le_refl 13) (mapE_one _ _ _) ?_
 have hHF:Below w.heap.size w ((w3.alloc (.cells (entC k cs).toArray 41)).setRow (w.heap.size+1) (mapE [(keyB,textD k),(valB,x)] (some ⟨w3.heap.size,0,none⟩) 2).toArray)∧RowT 30 ((w3.alloc (.cells (entC k cs).toArray 41)).setRow (w.heap.size+1) (mapE [(keyB,textD k),(valB,x)] (some ⟨w3.heap.size,0,none⟩) 2).toArray) w.heap.size cs:=⟨below_setRow hHA.1 (by omega) _,hHA.2.setRowOther (by omega) _⟩
 refine hK.out _ _ hHF (fun _=>?_)
 clear hK K
 refine wpAnyH_done (by kernel_rfl) ?_ _
 have HBF:=Hd hHF.1
 clear hHF hHA
 go_wp2_with fail
 refine bodyPost_ret (results_cell_row rfl _ _ (w.heap.size+1) 30 _ (0,0) _ rfl (setRow_heap _ _ _ _ _ _ ZA.out) Tryz.underlying30 rfl (row_size hl13)) rfl ?_
 refine ⟨(mapE [(keyB,textD k),(valB,x)] (some ⟨w3.heap.size,0,none⟩) 2),rfl,fun c hap=>?_,HBF.out⟩
 have hws:((w3.alloc (.cells (entC k cs).toArray 41)).setRow (w.heap.size+1) (mapE [(keyB,textD k),(valB,x)] (some ⟨w3.heap.size,0,none⟩) 2).toArray).heap.size=w3.heap.size+1:=by rw [setRow_size,World.size_alloc]
 have hc:c.heap[w3.heap.size]?=some (.cells (entC k cs).toArray 41):=by
  rw [hap.block w3.heap.size (by rw [hws];omega) (.inr (by have:=HS3.out;omega)),setRow_other _ _ _ _ (by have:=HS3.out;omega)]
  exact HBK.out
 have hsz:w3.heap.size+1≤c.heap.size:=by have:=hap.size;rw [hws] at this;exact this
 have HVc:ValD.At c c.heap.size N x cs:=(HV.out.below ((HBF.out.mono hB).trans (hap.below (by rw [hws];have:=HS3.out;omega)))).mono (by have:=HS3.out;omega)
 obtain ⟨a,cc,hv,hf⟩:=fieldsAt_own (w:=c) (base:=0) (B:=c.heap.size) (N:=N) (v:=.slice (some ⟨w3.heap.size,0,none⟩) 2 2) (t:=41) (n:=2) (cs:=entC k cs) (l:=[(keyB,textD k),(valB,x)])
  ⟨by simp [entC,textR,hlen],.inr ⟨w3.heap.size,2,(entC k cs).toArray,rfl,Nat.zero_le _,hc,Nat.le_refl _,by unfold maxLen;omega,by simp [entC,textR,hlen],List.take_of_length_le (by simp [entC,textR,hlen])⟩⟩ rfl (Nat.le_refl _) (fun i hi=>by
   match i,hi with
   | 0,_=>exact ⟨textR k,rfl,Nat.le_trans (by decide:keyB.size≤5) hN5,textD_at hk⟩
   | 1,_=>exact ⟨cs,(show List.take 14 (Value.string valB::cs)=_ from List.take_of_length_le (by simp [hlen])),Nat.le_trans (by decide:valB.size≤5) hN5,HVc⟩)
 cases hv
 exact mapE_at 2 (by show 2≤N;omega) hf
end Go.Proofs.YtagkjofpncpcpaaGreatDoor

/- builtin.parts at to_entries: the entries of a map. -/
namespace Go.Proofs.YtagkjofpncpcpaaGreatDoor
open Go.RowKit
theorem wp_rowsE2 {o:Oper} {a:Act} {w:World} {K:Act→World→Prop} {Q:Exit→Act→World→Prop} (rows:List (List Value)) (fl:List Value) (hfl:rows.flatten=fl) (len:Nat) (parts:Array (Nat×Operand)) (ho:o.op=.buildSlice 22 len parts)
 (hlen:rows.length=len) (hpos:0<len) (hle:len≤1000) (h14:∀ r∈rows,r.length=13) (hp:(parts.map fun (i,x)=>(i,a.eval x)).toList=((rows.map fun r=>Value.agg r.toArray).zipIdx 0).map fun x=>(x.2,x.1))
 (h:K (a.put o.dst (.slice (some ⟨w.heap.size,0,none⟩) len len)) (w.alloc (.cells fl.toArray 30))):o.wp Tryz.prog a w K Q:=by
 subst hfl
 obtain ⟨z,hz,hi⟩:=infoV
 cases hie:Tryz.prog.info? 30 with
 | none=>rw [hie] at hi;cases hi
 | some ie =>
   rw [hie] at hi
   simp only [Option.map_some,Option.some.injEq,Prod.mk.injEq] at hi
   obtain ⟨h1,h2,_⟩:=hi
   refine wp_buildSlice 22 30 len parts ho rows.flatten.toArray ie (.agg z) Tryz.underlying22 hie h1 (by rw [h2];omega) (by rw [h2];omega) ?_ h
   have e:=Great.fill_whole (s:=13) (by decide) (rows.map fun r=>Value.agg r.toArray) ((Array.range (len * 13)).map ((Value.agg z).cells[· % (Value.agg z).cells.size]!)) (fun v hv=>by
    obtain ⟨r,hr,rfl⟩:=List.mem_map.1 hv
    show r.toArray.size=13
    rw [List.size_toArray]
    exact h14 r hr) (by simp [hlen])
   rw [flat_agg] at e
   rw [hp,h2]
   exact e
theorem wpList_rowsE2 {ops:Array Oper} {rest:List Oper} {o:Oper} {a:Act} {w:World} {Q:Exit→Act→World→Prop} (hg:o.guard=none) (rows:List (List Value)) (fl:List Value) (hfl:rows.flatten=fl) (len:Nat) (parts:Array (Nat×Operand)) (ho:o.op=.buildSlice 22 len parts)
 (hlen:rows.length=len) (hpos:0<len) (hle:len≤1000) (h14:∀ r∈rows,r.length=13) (hp:(parts.map fun (i,x)=>(i,a.eval x)).toList=((rows.map fun r=>Value.agg r.toArray).zipIdx 0).map fun x=>(x.2,x.1))
 (h:wpList Tryz.prog ops Q rest (a.put o.dst (.slice (some ⟨w.heap.size,0,none⟩) len len)) (w.alloc (.cells fl.toArray 30))):wpList Tryz.prog ops Q (o::rest) a w :=
 wpList_plain hg fun _ hK=>wp_rowsE2 rows fl hfl len parts ho hlen hpos hle h14 hp (hK _ _ h)
theorem wpList_store_newE {P:Program} {ops:Array Oper} {rest:List Oper} {op:Oper} {a:Act} {w:World} {Q:Exit→Act→World→Prop} (hgd:op.guard=none) (ty:TypeId) (x y:Operand) (ho:op.op=.store ty x y) (b:Nat) (hb:w.heap.size=b)
 (c c':Array Value) (hx:a.eval x=.pointer (some ⟨b,0,none⟩)) (hy:a.eval y=.agg c')
 (hi:(P.info? ty).map (·.size)=some c'.size) (hc:c.size=c'.size) (h1:c'.all (·.oneCell')=true)
 (h:wpList P ops Q rest (a.put op.dst undef) (w.alloc (.cells c' ty))):wpList P ops Q (op::rest) a (w.alloc (.cells c ty)):=by
 subst hb
 exact wpList_store_new hgd ty x y ho c c' hx hy hi hc h1 h
theorem fitsV_upE:∀ (d e:Nat) (v:ValD),fitsV d v→d≤e→fitsV e v
 | 0,_,_,h,_=>h.elim
 | d+1,0,_,_,h=>by omega
 | d+1,e+1,v,h,hle=>⟨fun x hx=>fitsV_upE d e x (h.1 x hx) (by omega),fun f hf=>fitsV_upE d e f.2 (h.2 f hf) (by omega)⟩
theorem entD_fits {k:ByteArray} {x:ValD} (h:fitsV 45 x):fitsV 47 (entD k x):=⟨fun y hy=>(by cases hy),fun f hf=>by
 have hf':f∈[(keyB,textD k),(valB,x)]:=hf
 simp at hf'
 rcases hf' with rfl | rfl
 ·exact ⟨fun y hy=>(by cases hy),fun g hg=>(by cases hg)⟩
 ·exact fitsV_upE 45 46 x h (by omega)⟩
set_option maxRecDepth 100000 in
set_option maxHeartbeats 6400000 in
theorem parts_te (v:ValD) (w:World) (B Bo N:Nat) (cs:List Value) (h7:v.kind=7) (hf:fitsV 46 v) (hN5:5≤N) (hN:N≤4294967296) (hks:∀ f∈v.fields,f.1.size≤N) (hB:B≤w.heap.size) (hBo:Bo≤w.heap.size) (hv:ValD.At w B N v cs) :
 Calls Tryz.prog 21 #[.string ⟨#[116,111,95,101,110,116,114,105,101,115]⟩,.agg cs.toArray] w (ResR Bo N (resD (entsD v.fields)) w):=by
 obtain ⟨z0,hz0s,hinfo⟩:=infoV
 obtain ⟨i0,hi,hz0,hz1,hz2⟩:=info_parts hinfo
 have HZS:=Hd hz0s
 clear hinfo hz0s
 have HI:=Hd hi
 have HZ0:=Hd hz0
 have HZ1:=Hd hz1
 have HZ2:=Hd hz2
 clear hi hz0 hz1 hz2
 obtain ⟨ya,la,va,yc,lc,vc,hh⟩:=hv.has
 have hfl:v.fields.length≤N:=hh.own.2.2.2.2.2.2.2.2.2.2
 have HH:=Hd hh
 have HF:=Hd hf
 have HKS:=Hd hks
 have HK:=Hd (show cs[0]?=some (.int .i64 7) by rw [hh.kind,h7])
 have HT0:=Hd (show Below w.heap.size w ((w.alloc (.cells cs.toArray 30)).alloc (.cells #[.int .i64 0,.bool false,.bool false,.string ⟨#[]⟩,.int .i64 0,.int .i64 0,.int .i64 0,.int .i64 0,.int .i64 0,.string ⟨#[]⟩,.slice none 0 0,.slice none 0 0,.slice none 0 0] 30))∧RowT 30 ((w.alloc (.cells cs.toArray 30)).alloc (.cells #[.int .i64 0,.bool false,.bool false,.string ⟨#[]⟩,.int .i64 0,.int .i64 0,.int .i64 0,.int .i64 0,.int .i64 0,.string ⟨#[]⟩,.slice none 0 0,.slice none 0 0,.slice none 0 0] 30)) w.heap.size cs∧RowAt ((w.alloc (.cells cs.toArray 30)).alloc (.cells #[.int .i64 0,.bool false,.bool false,.string ⟨#[]⟩,.int .i64 0,.int .i64 0,.int .i64 0,.int .i64 0,.int .i64 0,.string ⟨#[]⟩,.slice none 0 0,.slice none 0 0,.slice none 0 0] 30)) (w.heap.size+1) zeroV.toList from by
  refine ⟨belowThen (belowBox w _) (belowBox _ _),(RowT.new w 30 cs).alloc _,?_⟩
  have h:=heap_alloc_new (w.alloc (.cells cs.toArray 30)) (.cells #[.int .i64 0,.bool false,.bool false,.string ⟨#[]⟩,.int .i64 0,.int .i64 0,.int .i64 0,.int .i64 0,.int .i64 0,.string ⟨#[]⟩,.slice none 0 0,.slice none 0 0,.slice none 0 0] 30)
  rw [World.size_alloc] at h
  exact h)
 have e0:=HT0.out.2.1.cell HK.out
 have e12:=HT0.out.2.1.cell hh.fields
 obtain ⟨el,hel⟩:∃ el,el=v.fields.map (fun f=>entD f.1 f.2):=⟨_,rfl⟩
 have HEL:=Hd hel
 have hell:el.length=v.fields.length:=by rw [hel,List.length_map]
 clear hv hh hf hks hel
 go_enter Tryz.func21,Tryz.ntmps21
 go_wp2_with fail
 go_simp
 clear e0 e12
 go_loopw [6,17] (fun s i wr=>∃ (k:Nat) (xs:List Value),k≤v.fields.length∧i=.int .i64 k∧Hid (wr.ownsRow (w.heap.size+2) 30 13 s k xs∧RowsG 13 (rowVE N) B (w.heap.size+2) wr s.ownBlock (el.take k) xs)∧Hid (Below w.heap.size w wr∧RowAt wr (w.heap.size+1) zeroV.toList)∧Hid (w.heap.size+2≤wr.heap.size)) (fun _ i _=>v.fields.length-(intOf i).toNat)
 case atStart=>exact ⟨0,[],by omega,rfl,Hd ⟨World.ownsRow_nil _ _ _ _,RowsG.nil⟩,Hd ⟨HT0.out.1,HT0.out.2.2⟩,Hd (by rw [World.size_alloc,World.size_alloc];omega)⟩
 case round =>
  clear HT0
  obtain ⟨w1,hw1⟩:∃ w1,w1=wr:=⟨_,rfl⟩
  subst wr
  obtain ⟨k,xs,hk,rfl,HO,HB,HSZ⟩:=hrel
  by_cases hlt:k<v.fields.length
  ·obtain ⟨b1,o1,rfl,hb1,hget1⟩:=HH.out.atFields.get (by intro h;simp [h] at hlt)
   obtain ⟨cs1,_,h1,h2⟩:=hget1 k hlt
   obtain ⟨ky,hky⟩:∃ ky,ky=v.fields[k].1:=⟨_,rfl⟩
   obtain ⟨x,hx⟩:∃ x,x=v.fields[k].2:=⟨_,rfl⟩
   have HKY:=Hd (show ky.size≤N by rw [hky];exact HKS.out _ (List.getElem_mem hlt))
   have HTK:=Hd (show el.take (k+1)=el.take k++[entD ky x] by rw [List.take_succ_eq_append_getElem (by omega),hky,hx];simp only [HEL.out,List.getElem_map])
   rw [← hky] at h1
   rw [← hx] at h2
   have HR:=Hd (h1.below (HB.out.1.mono hB) hb1).range
   have HV1:=Hd (h2.below (HB.out.1.mono hB))
   have hlen:=h2.len
   have hl1:=Hd (show (Tryz.prog.info? 41).map (·.size)=some (Value.string ky::cs1).length by rw [List.length_cons,h2.len];exact sizeF)
   have hl2:=Hd (show (Tryz.prog.info? 41).map (·.size)=some (Value.string ky::cs1).toArray.size by rw [List.size_toArray,List.length_cons,h2.len];exact sizeF)
   have hl3:=Hd (show zeroF.size=(Value.string ky::cs1).toArray.size by show 14=_;rw [List.size_toArray,List.length_cons,h2.len])
   have hl4:=Hd (show (Tryz.prog.info? 30).map (·.size)=some cs1.length by rw [h2.len];exact sizeV)
   have hone:=Hd (show (Value.string ky::cs1).toArray.all (·.oneCell')=true from Go.all_oneCell_toArray (fun u hu=>by
    rcases List.mem_cons.1 hu with rfl | hu
    ·rfl
    ·exact h2.oneCell u hu))
   have hone1:=Hd (show cs1.toArray.all (·.oneCell')=true from Go.all_oneCell_toArray (h2.oneCell))
   have RA:=Hd (box_at w1 (.string ky::cs1) 41)
   have HXB:=Hd (show Below w1.heap.size w1 ((w1.alloc (.cells (.string ky::cs1).toArray 41)).alloc (.cells cs1.toArray 30)) from belowThen (belowBox w1 _) (belowBox _ _))
   have hsB:=Hd (show ((w1.alloc (.cells (.string ky::cs1).toArray 41)).alloc (.cells cs1.toArray 30)).heap.size=w1.heap.size+2 by rw [World.size_alloc,World.size_alloc])
   have RB:=Hd (show RowT 30 ((w1.alloc (.cells (.string ky::cs1).toArray 41)).alloc (.cells cs1.toArray 30)) (w1.heap.size+1) cs1 from by
    have h:=RowT.new (w1.alloc (.cells (.string ky::cs1).toArray 41)) 30 cs1
    rwa [World.size_alloc] at h)
   have ek:=((RA.out.below (belowBox' (w1.alloc (.cells (.string ky::cs1).toArray 41)) _ (by rw [World.size_alloc];exact Nat.le_refl _)) (by omega)).get0 (j:=0) (v:=.string ky) rfl:((w1.alloc (.cells (.string ky::cs1).toArray 41)).alloc (.cells cs1.toArray 30)).cell? _=_)
   clear hky hx h1 h2 hget1
   go_wp2_with (first
    | (refine wpList_load_mid rfl 41 _ rfl b1 (o1+k * 14) rfl (.string ky::cs1) _ HR.out Tryz.underlying41 rfl hl1.out ?_)
    | ((with_reducible show wpList _ _ _ (⟨none,.store 41 (.tmp 12) _,_,_,_,_⟩::_) _ _);refine wpList_store_new rfl 41 _ _ rfl zeroF (.string ky::cs1).toArray rfl rfl hl2.out hl3.out hone.out ?_)
    | ((with_reducible show wpList _ _ _ (⟨some 22,_,_,_,_,_⟩::_) _ _);refine wpList_load_mid rfl 30 _ rfl w1.heap.size 1 rfl cs1 _ RA.out.tail.range Tryz.underlying30 rfl hl4.out ?_)
    | ((with_reducible show wpList _ _ _ (⟨none,.store 30 (.tmp 13) (.tmp 22),_,_,_,_⟩::_) _ _);refine wpList_store_newE rfl 30 _ _ rfl (w1.heap.size+1) (by rw [World.size_alloc]) zeroV cs1.toArray rfl rfl (row_size hlen) (row_zero hlen) hone1.out ?_)
    | ((with_reducible show wpList _ _ _ (⟨some 27,_,_,_,_,_⟩::_) _ _);refine wpList_load_mid rfl 30 _ rfl (w1.heap.size+1) 0 rfl cs1 _ RB.out.range Tryz.underlying30 rfl hl4.out ?_))
   refine (entry_p ky x _ B N cs1 hN5 HKY.out (by rw [hsB.out];have:=HSZ.out;omega) (HV1.out.below (HXB.out.mono (by have:=HSZ.out;omega)))).mono ?_
   rintro e w2 ⟨es,rfl,hsol,hb⟩
   have ES:=Hd hsol
   have ESH:=Hd hsol.here
   have hle:=hsol.here.len
   have hleV:=Hd (show (Tryz.prog.info? 30).map (·.size)=some es.length by rw [hle];exact sizeV)
   have hlec:=Hd (show cs1.toArray.size=es.toArray.size by rw [List.size_toArray,List.size_toArray,hlen,hle])
   have R2:=Hd (RB.out.then hb)
   have hs2:=Hd (show w1.heap.size+2≤w2.heap.size by have h:=hb.size;rw [hsB.out] at h;exact h)
   have HB2:=Hd (show Below w1.heap.size w1 w2 from belowThen HXB.out hb)
   have R3:=Hd (show RowT 30 (w2.setRow (w1.heap.size+1) es.toArray) (w1.heap.size+1) es from R2.out.setRow es)
   have HB3:=Hd (show Below w1.heap.size w1 (w2.setRow (w1.heap.size+1) es.toArray) from below_setRow HB2.out (by omega) _)
   have hs3:=Hd (show ((w2.setRow (w1.heap.size+1) es.toArray)).heap.size=w2.heap.size by rw [size_setRow])
   have G3:=Hd (show RowsG 13 (rowVE N) B (w.heap.size+2) (w2.setRow (w1.heap.size+1) es.toArray) u6.ownBlock (el.take (k+1)) (xs++es) from by
    rw [HTK.out]
    refine (HO.out.2.below HB3.out).push hle (S:=w1.heap.size+2) (E:=w2.heap.size) (by have:=HSZ.out;omega) (by rw [hs3.out];exact Nat.le_refl _) (fun q hq=>.inl (by have:=(HO.out.1.lt q hq).2;omega)) ?_
    have k1:=Kept.of_solid ES.out
    rw [hsB.out] at k1
    exact k1.step rfl rfl rfl (by rw [hs3.out];exact Nat.le_refl _) fun q _ hor=>setRow_other _ _ _ _ (by have:=HSZ.out;rcases hor with h | h<;>omega))
   have O3:=Hd (own_below' HO.out.1 HB3.out)
   have hs4:=Hd (show ((w2.setRow (w1.heap.size+1) es.toArray)).heap.size=w2.heap.size∧w.heap.size+2≤w2.heap.size by refine ⟨hs3.out,?_⟩;have:=hs2.out;have:=HSZ.out;omega)
   clear hsol hb
   go_wp2_with (first
    | ((with_reducible show wpList _ _ _ (⟨none,.store 30 (.tmp 13) (.tmp 28),_,_,_,_⟩::_) _ _);refine wpList_store_row rfl 30 _ _ rfl (w1.heap.size+1) es.toArray rfl rfl 30 cs1.toArray R2.out (row_size hle) hlec.out (row_ones ESH.out) ?_)
    | ((with_reducible show wpList _ _ _ (⟨some 30,_,_,_,_,_⟩::_) _ _);refine wpList_load_mid rfl 30 _ rfl (w1.heap.size+1) 0 rfl es _ R3.out.range Tryz.underlying30 rfl hleV.out ?_)
    | ((with_reducible show wpList _ _ _ (⟨some 31,_,_,_,_,_⟩::_) _ _);refine wpList_rowsE2 rfl [es] es (by simp) 1 _ rfl rfl (by decide) (by decide) (by intro r hr;simp at hr;rw [hr];exact hle) (by rw [List.map_toArray];rfl) ?_)
    | ((with_reducible show wpList _ _ _ (⟨some 32,_,_,_,_,_⟩::_) _ _);refine wpList_append_own_at _ rfl _ _ 22 rfl (w.heap.size+2) 30 i0 (.agg z0) 13 168 Tryz.underlying22 HI.out HZ0.out HZ1.out HZ2.out HZS.out (by decide) u6 k xs rfl (O3.out.alloc _) ⟨((w2.setRow (w1.heap.size+1) es.toArray)).heap.size,0,none⟩ 1 1 es rfl ?c0 ?c1 ?c2 ?c3 ?c4 ?c5 ?_))
   case c0=>rw [hle]
   case c1 =>
    intro j u hj
    have h:=(RowT.new ((w2.setRow (w1.heap.size+1) es.toArray)) 30 es).cell hj
    cases j<;>simpa [Addr.add] using h
   case c2=>exact ESH.out.oneCell
   case c3=>unfold maxLen;omega
   case c4=>omega
   case c5=>rw [World.size_alloc,hs4.out.1];have:=hs4.out.2;omega
   intro v' w5 hown5 hgrow _ hat
   have G5:=Hd (show RowsG 13 (rowVE N) B (w.heap.size+2) w5 v'.ownBlock (el.take (k+1)) (xs++es) from (G3.out.below (belowBox _ _)).grown hgrow (fun q hq=>by have:=(HO.out.1.lt q hq).1;omega) (by rw [World.size_alloc,hs4.out.1];exact hat))
   have HBL:=Hd (show Below (w.heap.size+2) ((w2.setRow (w1.heap.size+1) es.toArray)) w5 from (belowBox' _ _ (by rw [hs4.out.1];exact hs4.out.2)).grown hgrow (by rw [World.size_alloc,hs4.out.1];have:=hs4.out.2;omega) (fun q hq=>(HO.out.1.lt q hq).1))
   have HB5:=Hd (show Below w.heap.size w w5∧RowAt w5 (w.heap.size+1) zeroV.toList from ⟨(HB.out.1.trans (HB3.out.mono HB.out.1.size)).trans (HBL.out.mono (by omega)),(HB.out.2.below HB3.out (by have:=HSZ.out;omega)).below HBL.out (by omega)⟩)
   have HS5:=Hd (show w.heap.size+2≤w5.heap.size by have h:=HBL.out.size;rw [hs4.out.1] at h;have:=hs4.out.2;omega)
   have HO5:=Hd (show w5.ownsRow (w.heap.size+2) 30 13 v' (k+1) (xs++es)∧RowsG 13 (rowVE N) B (w.heap.size+2) w5 v'.ownBlock (el.take (k+1)) (xs++es) from ⟨hown5,G5.out⟩)
   clear hown5 hgrow hat
   go_wp2_with fail
   go_roundw
   case rel=>exact ⟨k+1,xs++es,by omega,by go_num,HO5,HB5,HS5⟩
   case measure=>simp [intOf];omega
  ·have hke:k=v.fields.length:=by omega
   have hob:=HO.out.1
   have hro:=HO.out.2
   rw [List.take_of_length_le (by omega)] at hro
   have HN:=Hd (show NewsV w1 w1.heap.size N el xs from ⟨hro.1,fun i hi=>hro.done i hi⟩)
   have HEN:=Hd (show entsD v.fields=lisD el by rw [HEL.out];rfl)
   have HFE:=Hd (show ∀ y∈el,fitsV 47 y from fun y hy=>by
    rw [HEL.out] at hy
    obtain ⟨f,hf',rfl⟩:=List.mem_map.1 hy
    exact entD_fits (HF.out.2 f hf'))
   obtain ⟨a,c,hve,hva⟩:=vals_news hob (by omega:el.length=k) (Nat.le_refl _) HN.out
   subst hve
   have HVA:=Hd hva
   clear hob hro hva HO HN
   go_wp2_with fail
   refine (list_prog_bn 47 (by omega) el v.fields.length hell HFE.out a c w1 w1.heap.size Bo N hN hfl (Nat.le_refl _) (by have:=HSZ.out;omega) HVA.out).mono ?_
   rintro e wE ⟨rs,rfl,hsol,hb⟩
   obtain ⟨r,hr⟩:∃ r,r=resD (lisD el):=⟨_,rfl⟩
   rw [← hr] at hsol ⊢
   have HR:=Hd hr
   have hlen:=hsol.here.len
   have AT:=Hd hsol.here
   have S1:=Hd hsol
   have HBE:=Hd (show Below w.heap.size w wE from belowThen HB.out.1 hb)
   have ZE:=Hd (HB.out.2.below hb (by have:=HSZ.out;omega))
   clear hsol hb hr
   obtain ⟨rv,rk⟩:=r
   go_wp2_with ((with_reducible show wpList _ _ _ (⟨none,.store 30 (.tmp 4) _,_,_,_,_⟩::_) _ _);refine wpList_store_row rfl 30 _ _ rfl (w.heap.size+1) rs.toArray rfl rfl 30 zeroV ZE.out (row_size hlen) (row_zero hlen) (row_ones AT.out) ?_)
   refine bodyPost_ret (results_cell_row2 rfl _ _ (w.heap.size+1) 30 _ (0,0) _ rfl (setRow_heap _ _ _ _ _ _ ZE.out) Tryz.underlying30 rfl (row_size hlen)) rfl ?_
   rw [HEN.out,← HR.out]
   refine ⟨rs,rfl,fun d hd=>S1.out d ?_,below_setRow HBE.out (by omega) _⟩
   exact (Apart.of_setRow0 rs.toArray (by omega) (by have:=HSZ.out;omega)).after hd (by have:=HSZ.out;omega)
end Go.Proofs.YtagkjofpncpcpaaGreatDoor
