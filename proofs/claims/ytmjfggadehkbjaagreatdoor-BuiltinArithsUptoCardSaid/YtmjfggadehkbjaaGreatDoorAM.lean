/- A region that draws its order and whose last operation writes what an early one has read: the condition on the world need not hold behind that last one. -/
import Derived.Test.YtmjfggadehkbjaaGreatDoorProg
import Derived.Test.YtmjfggadehkbjaaGreatDoorGA
import Derived.Test.YtmjfggadehkbjaaGreatDoorGB
import Derived.Test.YtmjfggadehkbjaaGreatDoorGD
import Derived.Test.YtmjfggadehkbjaaGreatDoorRow36
import Derived.Test.YtmjfggadehkbjaaGreatDoorXA
import Derived.Test.YtmjfggadehkbjaaGreatDoorXD
import Derived.Test.YtmjfggadehkbjaaGreatDoorAE
import Derived.Test.YtmjfggadehkbjaaGreatDoorAJ
namespace Go.Proofs.YtmjfggadehkbjaaGreatDoor
open Go.RowKit
section
variable {P:Program} {ops:Array Oper} {Q:Exit→Act→World→Prop} {md:Region.Mode} {S:World→Prop} {t:Nat}
def wpAnyT (P:Program) (md:Region.Mode) (ops:Array Oper) (Q:Exit→Act→World→Prop) (S:World→Prop) (t:Nat):Nat→Array Bool→Act→World→Prop
 | 0,listed,a,w=>Region.ready md ops listed=[]∧Q .normal a w
 | fuel+1,listed,a,w =>
   (Region.ready md ops listed=[]→Q .normal a w) ∧
   ∀ i∈Region.ready md ops listed,wpOp P ops Q i (fun a' w'=>(i≠t→S w')∧wpAnyT P md ops Q S t fuel (listed.setIfInBounds i true) a' w') a w
theorem wpAny_of_T:∀ (fuel:Nat) (listed:Array Bool) (a:Act) (w:World),wpAnyT P md ops Q S t fuel listed a w→wpAny P md ops Q fuel listed a w
 | 0,_,_,_,h=>h
 | fuel+1,_,_,_,h=>⟨h.1,fun i hi=>wpOp_mono (fun a' w' h'=>wpAny_of_T fuel _ a' w' h'.2) (h.2 i hi)⟩
def waitsB (md:Region.Mode) (ops:Array Oper):List Nat→Bool
 | a::b::r=>((ops[a]?).map (fun o=>o.after.any fun e=>Region.binds md e&&e.on==b)).getD false&&waitsB md ops (b::r)
 | _=>true
def freshB (listed:Array Bool) (path:List Nat):Bool:=path.all fun x=>!(listed.getD x true)
theorem waits_not {listed:Array Bool} {j i:Nat} (hj:j∈Region.ready md ops listed):∀ (path:List Nat),waitsB md ops (path++[i])=true→(∀ x∈path++[i],listed.getD x true=false)→j ∉ path
 | [],_,_=>by simp
 | a::r,hw,hf=>by
   obtain ⟨b,r',hr⟩:∃ b r',r++[i]=b::r':=by
    cases r with
    | nil=>exact ⟨i,[],rfl⟩
    | cons x y=>exact ⟨x,y++[i],rfl⟩
   rw [List.cons_append,hr] at hw hf
   simp only [waitsB,Bool.and_eq_true] at hw
   obtain ⟨h1,h2⟩:=hw
   rw [← hr] at h2
   have ih:=waits_not hj r h2 (fun x hx=>hf x (List.mem_cons_of_mem _ (by rw [← hr];exact hx)))
   rw [List.mem_cons,not_or]
   refine ⟨fun e=>?_,ih⟩
   subst e
   obtain ⟨_,oj,hoj,hall⟩:=mem_ready.1 hj
   rw [hoj] at h1
   simp only [Option.map_some,Option.getD_some,Array.any_eq_true,Bool.and_eq_true,beq_iff_eq] at h1
   obtain ⟨k,hk,hb,he⟩:=h1
   have h3:=hall _ (Array.getElem_mem hk) hb
   rw [he] at h3
   have h4:=hf b (by simp)
   rcases Nat.lt_or_ge b listed.size with h' | h'
   ·simp [h'] at h3 h4
    rw [h4] at h3
    cases h3
   ·simp [Array.getElem?_eq_none h'] at h4
theorem wpAnyT_first {i:Nat} {oi:Oper} {v:Value} (path:List Nat) (hw:waitsB md ops (path++[i])=true) (ht:t∈path) (hi:ops[i]?=some oi) (hsel:∀ (j:Nat) (o:Oper) cs b,ops[j]?=some o→o.op≠.select cs b)
 (hQ:∀ c a w,Q (.panic c) (a.put oi.dst v) w→Q (.panic c) a w) :
 ∀ (fuel:Nat) (listed:Array Bool) (a:Act) (w:World),
  (∀ j oj,ops[j]?=some oj→j≠i→listed.getD j true=false→(∀ e∈oj.after,Region.binds md e=true→e.on≠i)→oi.apart ops oj=true) →
  (∀ x∈path++[i],listed.getD x true=false)→i∈Region.ready md ops listed→YieldsIf P ops S oi v a→S w →
  wpAnyT P md ops Q S t fuel (listed.setIfInBounds i true) (a.put oi.dst v) w→wpAnyT P md ops Q S t (fuel+1) listed a w:=by
 intro fuel
 induction fuel with
 | zero =>
   intro listed a w _ _ hr hy hS H
   refine ⟨fun h=>(by rw [h] at hr;cases hr),fun j hj=>?_⟩
   by_cases hji:j=i
   ·subst hji;exact hy.wpOp hi hS ⟨fun _=>hS,H⟩
   ·have:=ready_mono hj hji
    rw [H.1] at this
    cases this
 | succ fuel ih =>
   intro listed a w hfree hun hr hy hS H
   refine ⟨fun h=>(by rw [h] at hr;cases hr),fun j hj=>?_⟩
   by_cases hji:j=i
   ·subst hji;exact hy.wpOp hi hS ⟨fun _=>hS,H⟩
   ·have h1:=H.2 j (ready_mono hj hji)
    have hjp:=waits_not hj path hw hun
    have hjt:j≠t:=fun e=>hjp (e ▸ ht)
    obtain ⟨hjun,oj,hoj,hall⟩:=mem_ready.1 hj
    have hnot:∀ e∈oj.after,Region.binds md e=true→e.on≠i:=fun e he hb heq=>by
     have h1:=hall e he hb
     have h0:=(mem_ready.1 hr).1
     rw [heq] at h1
     rcases Nat.lt_or_ge i listed.size with h' | h'
     ·simp [h'] at h0 h1;rw [h0] at h1;cases h1
     ·simp [Array.getElem?_eq_none h'] at h1
    have h2:=wpOp_putIf hoj (hfree j oj hoj hji hjun hnot) (fun cs b=>hsel i oi cs b hi) (fun cs b=>hsel j oj cs b hoj) hQ hy h1
    have hfree':∀ k ok,ops[k]?=some ok→k≠i→(listed.setIfInBounds j true).getD k true=false →
     (∀ e∈ok.after,Region.binds md e=true→e.on≠i)→oi.apart ops ok=true:=fun k ok hk hki hun hno=>by
     refine hfree k ok hk hki ?_ hno
     by_cases hjk:j=k
     ·subst hjk;exact hjun
     ·rw [getD_set_ne true hjk] at hun;exact hun
    have hun':∀ x∈path++[i],(listed.setIfInBounds j true).getD x true=false:=fun x hx=>by
     have hxj:j≠x:=by
      rintro rfl
      rcases List.mem_append.1 hx with h | h
      ·exact hjp h
      ·exact hji (by simpa using h)
     rw [getD_set_ne true hxj]
     exact hun x hx
    refine wpOp_mono (fun a' w' h3=>⟨fun _=>h3.2.1 hjt,ih (listed.setIfInBounds j true) a' w' hfree' hun' (ready_mono hr (Ne.symm hji)) h3.1 (h3.2.1 hjt) ?_⟩) h2
    rw [Array.setIfInBounds_comm _ _ hji]
    exact h3.2.2
theorem wpAnyT_take {i:Nat} {oi:Oper} {v:Value} {fuel:Nat} {listed:Array Bool} {l:List Value} {df:List Deferred} {w:World} (path:List Nat) (p:Nat) (hi:ops[i]?=some oi) (hd:oi.dst=some p)
 (hp:(waitsB md ops (path++[i])&&(path.contains t&&freshB listed (path++[i])))=true)
 (hs:(Region.noSelect ops&&(Region.free md ops listed i&&(Region.ready md ops listed).contains i))=true)
 (hQ:∀ c a w,Q (.panic c) (a.put oi.dst v) w→Q (.panic c) a w) (hy:YieldsIf P ops S oi v ⟨l.toArray,df⟩) (hS:S w)
 (h:wpAnyT P md ops Q S t fuel (listed.setIfInBounds i true) ⟨(l.set p v).toArray,df⟩ w):wpAnyT P md ops Q S t (fuel+1) listed ⟨l.toArray,df⟩ w:=by
 simp only [Bool.and_eq_true] at hp hs
 have e:Act.put (⟨l.toArray,df⟩:Act) oi.dst v=⟨(l.set p v).toArray,df⟩:=by
  rw [hd]
  simp [Act.put]
 refine wpAnyT_first path hp.1 (by simpa using hp.2.1) hi (Region.noSelect_spec hs.1) hQ fuel listed _ w (Region.free_spec hi hs.2.1) (fun x hx=>?_) (by simpa using hs.2.2) hy hS (by rw [e];exact h)
 have:=hp.2.2
 unfold freshB at this
 rw [List.all_eq_true] at this
 simpa using this x hx
theorem wpAnyT_one {i:Nat} {o:Oper} {fuel:Nat} {listed:Array Bool} {a:Act} {w:World} (hr:Region.ready md ops listed=[i]) (ho:ops[i]?=some o)
 (h:∀ K':Act→World→Prop,Shut (∀ a w,(i≠t→S w)→((i≠t→S w)→wpAnyT P md ops Q S t fuel (listed.setIfInBounds i true) a w)→K' a w)→if Region.wanted o (yielded ops a.tmps)=true then Oper.wp P o a w K' Q else K' (a.put o.dst undef) w) :
 wpAnyT P md ops Q S t (fuel+1) listed a w:=by
 refine ⟨fun h0=>(by rw [hr] at h0;cases h0),fun j hj=>?_⟩
 rw [hr] at hj
 obtain rfl:j=i:=by simpa using hj
 exact wpOp_step ho (fun K' hK=>h K' (fun a w hS hW=>hK a w ⟨hS,hW hS⟩))
theorem wpAnyT_done {listed:Array Bool} {a:Act} {w:World} (hr:Region.ready md ops listed=[]) (h:Q .normal a w):∀ fuel,wpAnyT P md ops Q S t fuel listed a w
 | 0=>⟨hr,h⟩
 | _+1=>⟨fun _=>h,by rw [hr];simp⟩
theorem wp_region_T {id:Nat} {a:Act} {w:World} (t:Nat) (hm:P.follows .mixedOrders=true)
 (h:wpAnyT P .any ops Q S t ops.size (Array.replicate ops.size false) a w.drew):(Code.region id ops true).wp P Q a w :=
 wp_region_any hm (wpAny_of_T _ _ _ _ h)
end
end Go.Proofs.YtmjfggadehkbjaaGreatDoor

/- datakitref07.Sorted: what stays while a sorted value is made. -/
namespace Go.Proofs.YtmjfggadehkbjaaGreatDoor
open Go.RowKit Stb
theorem below_side {B:Nat} {w0 w c:World} (h0:Below B w0 w) (hc:Below B w0 c) (hs:w.heap.size≤c.heap.size):Below B w c :=
 ⟨hc.os.trans h0.os.symm,hc.tape.trans h0.tape.symm,hc.output.trans h0.output.symm,hs,fun k hk=>(hc.block k hk).trans (h0.block k hk).symm⟩
theorem belowDrew {w w2:World} (hb:Below w.drew.heap.size w.drew w2):Below w.heap.size w w2:=⟨hb.os,hb.tape,hb.output,hb.size,hb.block⟩
theorem vals_safeG {a:World} {base N L n:Nat} {t:TypeId} {s:Value} {xs:List Value} {l:List ValD} {G:World→Prop} (h:a.ownsRow base t 13 s n xs) (hn:l.length=n) (hL:L≤base)
 (hc:∀ i (hi:i<l.length),Safe L s.ownBlock a (fun c=>G c→ValD.At c c.heap.size N l[i] ((xs.drop (i * 13)).take 13))) :
 ∃ ad cp,s=.slice ad l.length cp∧Safe L none a (fun c=>G c→ValsAt c c.heap.size N l ad):=by
 obtain ⟨ad,cp,rfl⟩:=own_slice h
 refine ⟨ad,cp,by rw [hn],fun c hk hg=>?_⟩
 obtain ⟨ad',cp',e,hv⟩:=valsAt_own (l:=l) (N:=N) (own_keep h hk hL) hn (Nat.le_refl _) (fun i hi=>hc i hi c hk.weak hg)
 simp only [Value.slice.injEq] at e
 obtain ⟨rfl,_,_⟩:=e
 exact hv
theorem fields_safeG {a:World} {base N L n:Nat} {t:TypeId} {s:Value} {xs:List Value} {l:List (ByteArray×ValD)} {G:World→Prop} (h:a.ownsRow base t 14 s n xs) (hn:l.length=n) (hL:L≤base)
 (hc:∀ i (hi:i<l.length),∃ ys,(xs.drop (i * 14)).take 14=.string l[i].1::ys∧l[i].1.size≤N∧Safe L s.ownBlock a (fun c=>G c→ValD.At c c.heap.size N l[i].2 ys)) :
 ∃ ad cp,s=.slice ad l.length cp∧Safe L none a (fun c=>G c→FieldsAt c c.heap.size N l ad):=by
 obtain ⟨ad,cp,rfl⟩:=own_slice h
 refine ⟨ad,cp,by rw [hn],fun c hk hg=>?_⟩
 obtain ⟨ad',cp',e,hv⟩:=fieldsAt_own (l:=l) (N:=N) (own_keep h hk hL) hn (Nat.le_refl _) (fun i hi=>by
  obtain ⟨ys,e1,e2,e3⟩:=hc i hi
  exact ⟨ys,e1,e2,e3 c hk.weak hg⟩)
 simp only [Value.slice.injEq] at e
 obtain ⟨rfl,_,_⟩:=e
 exact hv
theorem step_factsN {L:Nat} {wr w2 w3:World} {o2:Obj} {s:Value} {g:Nat} (hL:L≤wr.heap.size) (hs:∀ q,s.ownBlock=some q→L≤q∧q<wr.heap.size)
 (hb2:Below wr.heap.size wr w2) (hgrow:(w2.alloc o2).grownBy w3 s.ownBlock) (hlie:s.ownBlock=some g∨g=(w2.alloc o2).heap.size) :
 (Keep L s.ownBlock wr w3∧(∀ q,L≤q→some g=some q→s.ownBlock=some q∨wr.heap.size≤q))∧(Keep wr.heap.size none w2 w3∧(∀ q,wr.heap.size≤q→some g=some q→(none:Option Nat)=some q∨w2.heap.size≤q))∧Below L wr w3:=by
 have hsz2:(w2.alloc o2).heap.size=w2.heap.size+1:=World.size_alloc _ _
 have h2:=hb2.size
 refine ⟨⟨?_,?_⟩,⟨?_,?_⟩,?_⟩
 ·refine ((keep_below hb2 (Nat.le_refl _)).step (keep_below (belowBox w2 o2) (Nat.le_refl _)) (fun q _ h=>.inl h)).step (keep_grown hgrow) (fun q _ h=>.inl h)
 ·rintro q _ e
  cases e
  rcases hlie with h | h
  ·exact .inl h
  ·exact .inr (by omega)
 ·refine (keep_below (belowBox w2 o2) (Nat.le_refl _)).step (keep_grown_far hgrow (fun q h=>?_)) (fun q _ h=>.inl h)
  have:=(hs q h).2
  omega
 ·rintro q hq e
  cases e
  rcases hlie with h | h
  ·have:=(hs _ h).2
   omega
  ·exact .inr (by omega)
 ·refine ((hb2.mono hL).alloc (by omega) o2).grown hgrow (by omega) (fun q h=>(hs q h).1)
theorem keep_setLow {L p j:Nat} {w:World} (h:p<L) (v:Value):Keep L none w (w.setCell ⟨p,j,none⟩ v) :=
 ⟨by simp,fun q h1 _ _=>heap_setCell_other _ _ _ _ (by simp;omega)⟩
theorem cells_keep {L g o:Nat} {a b:World} {cs:List Value} (h:CellsAt a g o cs) (hk:Keep L none a b) (hL:L≤g) (hg:g<a.heap.size):CellsAt b g o cs:=fun j hj=>by
 rw [← h j hj]
 simp only [World.cell?]
 rw [hk.2 g hL hg (by simp)]
def rowS (cs:List Value) (s f:Value):List Value:=(cs.set 11 s).set 12 f
theorem rowS_11 {cs:List Value} {s f:Value} (h:cs.length=13):(rowS cs s f)[11]?=some s:=by
 unfold rowS
 rw [List.getElem?_set_ne (by decide),List.getElem?_set_self (by omega)]
theorem rowS_12 {cs:List Value} {s f:Value} (h:cs.length=13):(rowS cs s f)[12]?=some f:=by
 unfold rowS
 rw [List.getElem?_set_self (by rw [List.length_set];omega)]
theorem rowS_set11 (cs:List Value) (s f s':Value):(rowS cs s f).set 11 s'=rowS cs s' f:=by
 unfold rowS
 rw [List.set_comm _ _ (by decide),List.set_set]
theorem rowS_set12 (cs:List Value) (s f f':Value):(rowS cs s f).set 12 f'=rowS cs s f':=by
 unfold rowS
 rw [List.set_set]
theorem rowS_len {cs:List Value} (s f:Value) (h:cs.length=13):(rowS cs s f).length=13:=by
 unfold rowS
 rw [List.length_set,List.length_set,h]
theorem rowS_one {cs:List Value} {s f:Value} (h:∀ u∈cs,u.oneCell'=true) (hs:s.oneCell'=true) (hf:f.oneCell'=true):∀ u∈rowS cs s f,u.oneCell'=true:=fun u hu=>by
 unfold rowS at hu
 rcases List.mem_or_eq_of_mem_set hu with h1 | rfl
 ·rcases List.mem_or_eq_of_mem_set h1 with h2 | rfl
  ·exact h u h2
  ·exact hs
 ·exact hf
theorem rowS_at {c w:World} {B N:Nat} {v u:ValD} {cs:List Value} {lb fb:Option Addr} (ld fd:Nat) (hv:ValD.At w B N v cs) (hbc:Below B w c) (hBc:B≤c.heap.size)
 (h0:u.kind=v.kind∧u.bool=v.bool∧u.num=v.num∧u.time=v.time∧u.text=v.text∧u.bytes=v.bytes) (h1:u.list.length=v.list.length) (h2:u.fields.length=v.fields.length)
 (hl:ValsAt c c.heap.size N u.list lb) (hf:FieldsAt c c.heap.size N u.fields fb):ValD.At c c.heap.size N u (rowS cs (.slice lb u.list.length ld) (.slice fb u.fields.length fd)):=by
 obtain ⟨ya,la,va,yc,lc,vc,rfl,hown,hy,_,_⟩:=hv.row
 obtain ⟨k,b,n,t,x,y,l,f⟩:=u
 obtain ⟨rfl,rfl,rfl,rfl,rfl,rfl⟩:=h0
 refine ValD.At.mk (v:=.mk v.kind v.bool v.num v.time v.text v.bytes l f) (ya:=ya) (yc:=yc) ?_ ((hy.below hbc).mono hBc) hl hf
 obtain ⟨o1,o2,o3,o4,o5,o6,o7,o8,o9,o10,o11⟩:=hown
 exact ⟨o1,o2,o3,o4,o5,o6,o7,o8,o9,by rw [h1];exact o10,by rw [h2];exact o11⟩
def SrqR (B N:Nat) (v:ValD) (w:World) (e:Ending) (w':World):Prop:=∃ cs:List Value,e=.returned (.agg cs.toArray)∧Safe w.heap.size none w' (fun c=>Below B w c→ValD.At c c.heap.size N v cs)∧Below w.heap.size w w'
theorem SrqR.here {B N:Nat} {v:ValD} {w w':World} {cs:List Value} (h:Safe w.heap.size none w' (fun c=>Below B w c→ValD.At c c.heap.size N v cs)) (hb:Below w.heap.size w w') (hB:B≤w.heap.size):ValD.At w' w'.heap.size N v cs:=h w' (Keep.refl _ _ _) (hb.mono hB)
def EltS (H:Nat) (s:Value) (w wr:World) (B N:Nat) (l:List ValD) (k:Nat) (xs:List Value):Prop:=∀ j (hj:j<l.length),j<k→Safe H s.ownBlock wr (fun c=>Below B w c→ValD.At c c.heap.size N l[j] ((xs.drop (j * 13)).take 13))
def EltF (H:Nat) (s:Value) (w wr:World) (B N:Nat) (l:List (ByteArray×ValD)) (k:Nat) (xs:List Value):Prop :=
 ∀ j (hj:j<l.length),j<k→∃ ys,(xs.drop (j * 14)).take 14=.string l[j].1::ys∧l[j].1.size≤N∧Safe H s.ownBlock wr (fun c=>Below B w c→ValD.At c c.heap.size N l[j].2 ys)
theorem sortD_s (m:Nat) (v:ValD):(sortD (m+1) v).kind=v.kind∧(sortD (m+1) v).bool=v.bool∧(sortD (m+1) v).num=v.num∧(sortD (m+1) v).time=v.time∧(sortD (m+1) v).text=v.text∧(sortD (m+1) v).bytes=v.bytes:=by
 cases v;exact ⟨rfl,rfl,rfl,rfl,rfl,rfl⟩
theorem sortD_list (m:Nat) (v:ValD):(sortD (m+1) v).list=v.list.map (sortD m):=by cases v;rfl
theorem sortD_fields (m:Nat) (v:ValD):(sortD (m+1) v).fields=(sortF v.fields).map fun z=>(z.1,sortD m z.2):=by cases v;rfl
theorem Tval.putOut {w W:World} {cs ds zs zs':List Value} {j:Nat} {v:Value} (h:Tval w W cs ds zs) (hz:zs.set j v=zs'):Tval w (W.setCell ⟨w.heap.size+1+1,j,none⟩ v) cs ds zs' :=
 ⟨below_set h.below (by omega) _,h.one.setOther (by omega) _ _,h.two.setOther (by omega) _ _,by rw [← hz];exact h.res.set j v⟩
theorem EltS.next {L:Nat} {s:Value} {w wr w3 w4:World} {B N g k n cap p q:Nat} {x:Value} {l:List ValD} {xs cs2:List Value} (h:EltS L s w wr B N l k xs) (hx:xs.length=k * 13) (h2:cs2.length=13) (hp:p<L) (h4:w4=w3.setCell ⟨p,q,none⟩ x)
 (hf:Keep L s.ownBlock wr w3∧(∀ q,L≤q→some g=some q→s.ownBlock=some q∨wr.heap.size≤q))
 (hn:∀ hk:k<l.length,Safe L (some g) w3 (fun c=>Below B w c→ValD.At c c.heap.size N l[k] cs2)):EltS L (.slice (some ⟨g,0,none⟩) n cap) w w4 B N l (k+1) (xs++cs2):=by
 intro j hj hjk
 subst h4
 rw [drop_take_append hx h2 hjk]
 refine Safe.next (no:=some g) ?_ (keep_setLow hp x).weak (fun _ _ h=>.inl h)
 split
 ·exact (h j hj ‹_›).next hf.1 hf.2
 ·obtain rfl:j=k:=by omega
  exact hn hj
theorem EltF.next {L:Nat} {s:Value} {w wr w3 w4:World} {B N g k n cap p q:Nat} {x:Value} {l:List (ByteArray×ValD)} {ky:ByteArray} {xs cs2:List Value} (h:EltF L s w wr B N l k xs) (hx:xs.length=k * 14) (h2:cs2.length=13) (hp:p<L) (h4:w4=w3.setCell ⟨p,q,none⟩ x)
 (hf:Keep L s.ownBlock wr w3∧(∀ q,L≤q→some g=some q→s.ownBlock=some q∨wr.heap.size≤q))
 (hn:∀ hk:k<l.length,l[k].1=ky∧ky.size≤N∧Safe L (some g) w3 (fun c=>Below B w c→ValD.At c c.heap.size N l[k].2 cs2)):EltF L (.slice (some ⟨g,0,none⟩) n cap) w w4 B N l (k+1) (xs++.string ky::cs2):=by
 intro j hj hjk
 subst h4
 rw [drop_take_append14 hx (by rw [List.length_cons,h2]) hjk]
 split
 ·obtain ⟨ys,e1,e2,e3⟩:=h j hj ‹_›
  exact ⟨ys,e1,e2,Safe.next (no:=some g) (e3.next hf.1 hf.2) (keep_setLow hp x).weak (fun _ _ h=>.inl h)⟩
 ·obtain rfl:j=k:=by omega
  obtain ⟨e1,e2,e3⟩:=hn hj
  exact ⟨cs2,by rw [e1],by rw [e1];exact e2,Safe.next (no:=some g) e3 (keep_setLow hp x).weak (fun _ _ h=>.inl h)⟩
end Go.Proofs.YtmjfggadehkbjaaGreatDoor
