/- Numbers of a fixed width: moment.digits, datakitref05.pad. -/
import Derived.Test.YtniljgkkcnekgaaGreatDoorProg
import Derived.Test.YtniljgkkcnekgaaGreatDoorGA
import Derived.Test.YtniljgkkcnekgaaGreatDoorGB
import Derived.Test.YtniljgkkcnekgaaGreatDoorGD
import Derived.Test.YtniljgkkcnekgaaGreatDoorGZ
namespace Go.Proofs.YtniljgkkcnekgaaGreatDoor
open Go.RowKit
theorem strNums_app (a b:List Int):strOfNums (a++b)=strOfNums a++strOfNums b:=by
 apply ByteArray.ext
 apply Array.ext'
 rw [strOfNums_data,ByteArray.data_append,Array.toList_append,strOfNums_data,strOfNums_data,List.map_append]
def pdS (n wd:Nat):ByteArray:=strOfNums (padT n wd)
theorem pdS_size (n wd:Nat):(pdS n wd).size=wd:=by unfold pdS;rw [strOfNums_size,padT_len]
def rowP (wd k n:Nat):List Int:=List.replicate k 0++padT n (wd-k)
theorem rowP_len {wd k n:Nat} (h:k≤wd):(rowP wd k n).length=wd:=by unfold rowP;rw [List.length_append,List.length_replicate,padT_len];omega
theorem rowP_set {wd k n:Nat} (h:k<wd):(rowP wd (k+1) n).set k (((48+n / 10 ^ (wd-(k+1)) % 10:Nat):Int))=rowP wd k n:=by
 unfold rowP
 rw [show wd-k=(wd-(k+1))+1 by omega,padT_ahead,List.set_append_left _ _ (by simp),List.replicate_succ' (n:=k),List.set_append_right _ _ (by simp),List.length_replicate,Nat.sub_self,List.set_cons_zero,List.append_assoc]
 rfl
theorem made_rowP (wd n:Nat):(madeCells (Value.cells (.int .u8 0)) (wd * 1)).toList=(rowP wd wd n).map (Value.int .u8):=by
 have:=made_zeros wd
 rw [this]
 unfold zerosAt rowP
 simp [padT]
set_option maxRecDepth 100000 in
set_option maxHeartbeats 3200000 in
theorem digits_p (k m:Int) (n wd:Nat) (hk:k=n) (hm:m=wd) (hn:n≤4000000000) (h1:1≤wd) (h2:wd≤20) (w:World):Calls Tryz.prog 137 #[.int .i64 k,.int .i64 m] w (StrB (pdS n wd) w):=by
 subst hk
 subst hm
 obtain ⟨i0,hin,hz0,hz1,hz2⟩:=info_parts infoU8
 go_enter Tryz.func137,Tryz.ntmps137
 go_wp2_with (refine wpList_make_full _ rfl _ _ 35 rfl w.heap.size 5 i0 (.int .u8 0) 1 Tryz.underlying35 hin hz0 hz1 .i64 .i64 _ _ wd rfl rfl rfl rfl (by rw [hz2];omega) (by unfold maxLen;omega) (Nat.le_refl _) ?_)
 intro w1 hown hgrow
 have HO:=Hd (show w1.ownsRow w.heap.size 5 1 (.slice (some ⟨w.heap.size,0,none⟩) wd wd) wd ((rowP wd wd n).map (Value.int .u8)) by rw [← made_rowP];simpa [Value.cells] using hown)
 have HBW:=Hd (show Below w.heap.size w w1 from Below.grown (Below.refl _ _) hgrow (Nat.le_refl _) (fun j hj=>by cases hj))
 have HN0:=Hd (show n=n / 10 ^ (wd-wd) by rw [Nat.sub_self,Nat.pow_zero,Nat.div_one])
 clear hown hgrow
 go_wp2_with fail
 go_simp
 go_loopw [0,6] (fun nv i wr=>∃ k x:Nat,k≤wd∧i=.int .i64 ((k:Int)-1)∧nv=.int .i64 x∧x≤4000000000∧Hid (x=n / 10 ^ (wd-k))∧Hid (wr.ownsRow w.heap.size 5 1 (.slice (some ⟨w.heap.size,0,none⟩) wd wd) wd ((rowP wd k n).map (Value.int .u8)))∧Hid (Below w.heap.size w wr)) (fun _ i _=>(intOf i+1).toNat)
 case atStart=>exact ⟨wd,n,by omega,rfl,rfl,hn,HN0,HO,HBW⟩
 case round =>
  clear HO HBW HN0
  obtain ⟨w2,rfl⟩:∃ w2,w2=wr:=⟨wr,rfl⟩
  obtain ⟨k,x,hk,rfl,rfl,hx4,HX,HO,HBW⟩:=hrel
  cases k with
  | zero =>
    have HCV:=HO.out
    rw [show rowP wd 0 n=padT n wd by unfold rowP;simp] at HCV
    have hconv:=conv_owned HCV (by rw [padT_len])
    clear HCV
    have hz:((0:Nat):Int)-1=-1:=by omega
    go_wp2_with fail
    go_ret
    exact ⟨rfl,HBW.out⟩
  | succ q =>
    obtain ⟨d,hd⟩:∃ d,d=x % 10:=⟨_,rfl⟩
    obtain ⟨x2,hx2⟩:∃ x2,x2=x / 10:=⟨_,rfl⟩
    obtain ⟨y,hy⟩:∃ y:Int,y=(48:Int)+(d:Int):=⟨_,rfl⟩
    have hqi:((q+1:Nat):Int)-1=(q:Int):=by omega
    have hqi2:((q:Int)+1)-1=(q:Int):=by omega
    have htm:(x:Int) % 10=(d:Int):=by omega
    have htm2:(x:Int).tmod 10=(d:Int):=by rw [Int.tmod_eq_emod_of_nonneg (by omega)];omega
    have htd:(x:Int) / 10=(x2:Int):=by omega
    have htd2:(x:Int).tdiv 10=(x2:Int):=by rw [Int.tdiv_eq_ediv_of_nonneg (by omega)];omega
    have hy0:48≤y:=by omega
    have hy1:y≤57:=by omega
    have hy2:(48:Int)+(d:Int)=y:=hy.symm
    have hqm:q<wd:=by omega
    have hx3:x2≤4000000000:=by omega
    have HX2:=Hd (show x2=n / 10 ^ (wd-q) by rw [hx2,HX.out,Nat.div_div_eq_div_mul,← Nat.pow_succ,show (wd-(q+1)).succ=wd-q by omega])
    have HY:=Hd (show y=((48+n / 10 ^ (wd-(q+1)) % 10:Nat):Int) by rw [← HX.out,← hd,hy];try omega)
    have hown:=HO.out
    have hc:=hown.cellAt q (by omega)
    have hf:=hown.frozenAt q
    have hst:=Hd (hown.stored q (.int .u8 y))
    rw [List.getElem?_map,List.getElem?_eq_getElem (by rw [rowP_len hk];exact hqm),Option.map_some] at hc
    have HN:=Hd (show (w2.setCell ⟨w.heap.size,q,none⟩ (.int .u8 y)).ownsRow w.heap.size 5 1 (.slice (some ⟨w.heap.size,0,none⟩) wd wd) wd ((rowP wd q n).map (Value.int .u8)) by
     have:=hst.out.1
     rw [← rowP_set hqm,← HY.out]
     simpa [List.map_set] using this)
    have HB2:=Hd (show Below w.heap.size w (w2.setCell ⟨w.heap.size,q,none⟩ (.int .u8 y)) from Below.grown HBW.out hst.out.2 HBW.out.size (fun j hj=>by cases hj;exact Nat.le_refl _))
    clear hown hst hd hx2 hy HO HBW HX
    go_wp2_with fail
    go_roundw
    case rel=>exact ⟨q,x2,by omega,by go_num,rfl,hx3,HX2,HN,HB2⟩
    case measure=>simp [intOf]
set_option maxRecDepth 100000 in
set_option maxHeartbeats 3200000 in
theorem pad_r (k m:Int) (n wd:Nat) (hk:k=n) (hm:m=wd) (hn:n≤4000000000) (h2:wd≤20) (w:World):Calls Tryz.prog 64 #[.int .i64 k,.int .i64 m] w (StrB (pdS n wd) w):=by
 subst hk
 subst hm
 have HN0:=Hd (show n=n / 10 ^ 0 by rw [Nat.pow_zero,Nat.div_one])
 have HS0:=Hd (show (⟨#[]⟩:ByteArray)=pdS n 0 from rfl)
 have hsz0:(⟨#[]⟩:ByteArray).size=0:=rfl
 go_enter Tryz.func64,Tryz.ntmps64
 go_wp2_with fail
 go_simp
 go_loopw [0,5,6] (fun nv sv i wr=>∃ (j x:Nat) (t:ByteArray),j≤wd∧i=.int .i64 j∧nv=.int .i64 x∧sv=.string t∧t.size=j∧x≤4000000000∧Hid (x=n / 10 ^ j)∧Hid (t=pdS n j)∧Hid (Below w.heap.size w wr)) (fun _ _ i _=>wd-(intOf i).toNat)
 case atStart=>exact ⟨0,n,⟨#[]⟩,by omega,rfl,rfl,rfl,rfl,hn,HN0,HS0,Hd (Below.refl _ _)⟩
 case round =>
  clear HN0 HS0 hsz0
  obtain ⟨w2,rfl⟩:∃ w2,w2=wr:=⟨wr,rfl⟩
  obtain ⟨j,x,t,hj,rfl,rfl,rfl,ht,hx4,HX,HT,HBW⟩:=hrel
  by_cases hlt:j<wd
  ·obtain ⟨d,hd⟩:∃ d,d=x % 10:=⟨_,rfl⟩
   obtain ⟨x2,hx2⟩:∃ x2,x2=x / 10:=⟨_,rfl⟩
   obtain ⟨y,hy⟩:∃ y:Int,y=(48:Int)+(d:Int):=⟨_,rfl⟩
   have htm:(x:Int) % 10=(d:Int):=by omega
   have htm2:(x:Int).tmod 10=(d:Int):=by rw [Int.tmod_eq_emod_of_nonneg (by omega)];omega
   have htd:(x:Int) / 10=(x2:Int):=by omega
   have htd2:(x:Int).tdiv 10=(x2:Int):=by rw [Int.tdiv_eq_ediv_of_nonneg (by omega)];omega
   have hy0:48≤y:=by omega
   have hy1:y≤57:=by omega
   have hy2:(48:Int)+(d:Int)=y:=hy.symm
   have hx3:x2≤4000000000:=by omega
   have HX2:=Hd (show x2=n / 10 ^ (j+1) by rw [hx2,HX.out,Nat.div_div_eq_div_mul,← Nat.pow_succ])
   have HT2:=Hd (show strOfNums [y]++t=pdS n (j+1) by
    unfold pdS
    rw [padT_ahead,HT.out,show y=((48+n / 10 ^ j % 10:Nat):Int) by rw [← HX.out,← hd,hy];try omega]
    exact (strNums_app [_] _).symm)
   have hconv:=@conv_one w2 y
   have hs1:(strOfNums [y]).size=1:=by rw [strOfNums_size];rfl
   have hsz:(strOfNums [y]++t).size=j+1:=by rw [ByteArray.size_append,hs1,ht];omega
   have HSZ:=Hd hsz
   obtain ⟨a,ha⟩:∃ a,a=strOfNums [y]:=⟨_,rfl⟩
   rw [← ha] at hconv HT2 hs1 HSZ
   clear hd hx2 hy HX HT hsz ha
   go_wp2_with fail
   go_roundw
   case rel=>exact ⟨j+1,x2,a++t,by omega,by go_num,rfl,rfl,HSZ.out,hx3,HX2,HT2,Hd (belowThen HBW.out (belowBox _ _))⟩
   case measure=>simp [intOf];omega
  ·obtain rfl:j=wd:=by omega
   go_wp2_with fail
   go_ret
   exact ⟨by rw [← HT.out];rfl,HBW.out⟩
end Go.Proofs.YtniljgkkcnekgaaGreatDoor

/- Texts of times (plain). -/
namespace Go.Proofs.YtniljgkkcnekgaaGreatDoor
open Go.RowKit
def dateS (n:Nat):ByteArray:=pdS (yearF n) 4++⟨#[45]⟩++pdS (monF (yearF n) (n-startN (yearF n))) 2++⟨#[45]⟩++pdS (dayF n) 2
def hmsS (n:Nat):ByteArray:=pdS (n / 1000000000 / 3600) 2++⟨#[58]⟩++pdS (n / 1000000000 / 60 % 60) 2++⟨#[58]⟩++pdS (n / 1000000000 % 60) 2
def fracL (n:Nat):List Int:=cutZ (padT (n % 1000000000) 9)
def clockS (n:Nat):ByteArray:=if n % 1000000000=0 then hmsS n else hmsS n++⟨#[46]⟩++strOfNums (fracL n)
def offS (o:Int):ByteArray:=if o=0 then ⟨#[90]⟩ else (if o<0 then ⟨#[45]⟩ else ⟨#[43]⟩)++pdS (o.natAbs / 60) 2++⟨#[58]⟩++pdS (o.natAbs % 60) 2
def timeS (t:TimeD):ByteArray :=
 if t.kind=1 then dateS t.day.toNat else if t.kind=2 then clockS t.nano.toNat else if t.kind=3 then dateS t.day.toNat++⟨#[84]⟩++clockS t.nano.toNat else dateS t.day.toNat++⟨#[84]⟩++clockS t.nano.toNat++offS t.offset
theorem yearF_le (n:Nat):yearF n≤9999:=by
 unfold yearF
 have:=List.countP_le_length (p:=fun k=>decide (startN (k+2)≤n)) (l:=List.range 9998)
 rw [List.length_range] at this
 omega
theorem monF_le (y r:Nat):monF y r≤12:=by
 unfold monF
 have:=List.countP_le_length (p:=fun k=>decide (preM y (k+2)≤r)) (l:=List.range 11)
 rw [List.length_range] at this
 omega
theorem dayF_le (n:Nat):dayF n≤n+1:=by unfold dayF;omega
theorem dateS_size (n:Nat):(dateS n).size=10:=by
 unfold dateS
 simp only [ByteArray.size_append,pdS_size]
 rfl
theorem hmsS_size (n:Nat):(hmsS n).size=8:=by
 unfold hmsS
 simp only [ByteArray.size_append,pdS_size]
 rfl
theorem cutZ_len (l:List Int):(cutZ l).length≤l.length:=by
 unfold cutZ
 rw [List.length_reverse]
 have:=(List.dropWhile_sublist (l:=l.reverse) (·==48)).length_le
 rw [List.length_reverse] at this
 exact this
theorem fracL_len (n:Nat):(fracL n).length≤9:=by
 have:=cutZ_len (padT (n % 1000000000) 9)
 rw [padT_len] at this
 exact this
theorem clockS_size (n:Nat):(clockS n).size≤18:=by
 unfold clockS
 split
 ·rw [hmsS_size];omega
 ·rw [ByteArray.size_append,ByteArray.size_append,hmsS_size,strOfNums_size]
  have:=fracL_len n
  have h1:(⟨#[46]⟩:ByteArray).size=1:=rfl
  omega
theorem offS_size (o:Int):(offS o).size≤6:=by
 unfold offS
 split
 ·show 1≤6;omega
 ·simp only [ByteArray.size_append,pdS_size]
  split<;>(show 1+2+1+2≤6;omega)
theorem timeS_size (t:TimeD):(timeS t).size≤40:=by
 have h1:=dateS_size t.day.toNat
 have h2:=clockS_size t.nano.toNat
 have h3:=offS_size t.offset
 have h4:(⟨#[84]⟩:ByteArray).size=1:=rfl
 unfold timeS
 split
 ·omega
 split
 ·omega
 split
 ·rw [ByteArray.size_append,ByteArray.size_append];omega
 ·rw [ByteArray.size_append,ByteArray.size_append,ByteArray.size_append];omega
theorem dw_nil {p:Int→Bool}:∀ {l:List Int},l.dropWhile p=[]→∀ c∈l,p c=true
 | [],_,c,h=>by cases h
 | x::r,h,c,hc=>by
   rw [List.dropWhile_cons] at h
   split at h
   ·rcases List.mem_cons.1 hc with rfl | hc
    ·assumption
    ·exact dw_nil h c hc
   ·cases h
theorem cutZ_nil {l:List Int} (h:cutZ l=[]):∀ c∈l,c=48:=by
 intro c hc
 unfold cutZ at h
 rw [List.reverse_eq_nil_iff] at h
 simpa using dw_nil h c (List.mem_reverse.2 hc)
theorem padT_48:∀ (w n:Nat),(∀ c∈padT n w,c=48)→n % 10 ^ w=0
 | 0,n,_=>by rw [Nat.pow_zero];omega
 | w+1,n,h=>by
   rw [padT] at h
   have h1:=padT_48 w (n / 10) (fun c hc=>h c (List.mem_append_left _ hc))
   have h2:=h _ (List.mem_append_right _ (List.mem_singleton.2 rfl))
   have h3:n % 10=0:=by omega
   have h4:n=10 * (n / 10):=by omega
   rw [h4,Nat.pow_succ,Nat.mul_comm (10 ^ w) 10,Nat.mul_mod_mul_left,h1]
theorem fracL_ne {n:Nat} (h:n % 1000000000≠0):fracL n≠[]:=fun e=>by
 have h1:=padT_48 9 (n % 1000000000) (cutZ_nil e)
 omega
theorem ext_strNums (l:List Int) (c:Int):(strOfNums (l++[c])).extract 0 l.length=strOfNums l:=by
 rw [strNums_app,← strOfNums_size l]
 exact ByteArray.extract_append_eq_left rfl
theorem byteI_last (l:List Int) (c:Int) (h0:0≤c) (h1:c≤255):byteI (strOfNums (l++[c])) l.length=c:=by
 have hs:l.length<(strOfNums (l++[c])).size:=by rw [strOfNums_size,List.length_append];exact Nat.lt_succ_self _
 rw [← byteI_eq hs]
 have e:(strOfNums (l++[c]))[l.length]=UInt8.ofNat c.toNat:=by
  show (strOfNums (l++[c])).data[l.length]=_
  have:(strOfNums (l++[c])).data.toList[l.length]?=some (UInt8.ofNat c.toNat):=by
   rw [strOfNums_data,List.map_append,List.getElem?_append_right (by simp)]
   simp
  rw [Array.getElem?_toList] at this
  exact (Array.getElem?_eq_some_iff.1 this).2
 rw [e,UInt8.toNat_ofNat_of_lt' (by show c.toNat<256;omega)]
 omega
end Go.Proofs.YtniljgkkcnekgaaGreatDoor

/- The program's calendar: leap years, months, dates. -/
namespace Go.Proofs.YtniljgkkcnekgaaGreatDoor
open Go.RowKit
theorem results_tmp4 {fn:Func} {t u v x:Tmp} (h:fn.results=#[.tmp t,.tmp u,.tmp v,.tmp x]) (tmps:Array Value) (P:Program) (w:World) :
 (results fn tmps).run P w=.ok (.tuple #[tmps.getD t undef,tmps.getD u undef,tmps.getD v undef,tmps.getD x undef]) w:=by
 simp [results,h]
set_option maxRecDepth 100000 in
theorem yvalid_p (y:Nat) (h1:1≤y) (h2:y≤9999) (w:World):Calls Tryz.prog 167 #[.int .i64 y] w (fun e w'=>e=.returned (.bool true)∧w'=w):=by
 have d1:decide ((y:Int)≤9999)=true:=decide_eq_true (by omega)
 have d2:decide ((1:Int)≤y)=true:=decide_eq_true (by omega)
 go_enter Tryz.func167,Tryz.ntmps167
 go_wp2_with fail
 go_ret
 exact ⟨by first | rfl | (rw [← d1];rfl),rfl⟩
set_option maxRecDepth 100000 in
theorem leap_p (y:Nat) (h1:1≤y) (h2:y≤9999) (w:World):Calls Tryz.prog 168 #[.int .i64 y] w (fun e w'=>e=.returned (.bool (leapN y))∧w'=w):=by
 by_cases q4:y % 4=0
 ·by_cases q100:y % 100=0
  ·by_cases q400:y % 400=0
   ·have e4:((y:Int) % 4==0)=true:=by simp;omega
    have f4:(y % 4==0)=true:=by simp;omega
    have e100:((y:Int) % 100 != 0)=false:=by simp;omega
    have g100:((y:Int) % 100==0)=true:=by simp;omega
    have e400:((y:Int) % 400==0)=true:=by simp;omega
    have HY:=Hd (show leapN y=true by unfold leapN;simp;omega)
    clear q4 q100 q400 f4
    go_enter Tryz.func168,Tryz.ntmps168
    go_wp2_with (go_at_call 167;refine (yvalid_p y h1 h2 _).mono ?_;rintro e w1 ⟨rfl,rfl⟩)
    go_ret
    exact ⟨by rw [HY.out];rfl,rfl⟩
   ·have e4:((y:Int) % 4==0)=true:=by simp;omega
    have f4:(y % 4==0)=true:=by simp;omega
    have e100:((y:Int) % 100 != 0)=false:=by simp;omega
    have g100:((y:Int) % 100==0)=true:=by simp;omega
    have e400:((y:Int) % 400==0)=false:=by simp;omega
    have HY:=Hd (show leapN y=false by unfold leapN;simp;omega)
    clear q4 q100 q400 f4
    go_enter Tryz.func168,Tryz.ntmps168
    go_wp2_with (go_at_call 167;refine (yvalid_p y h1 h2 _).mono ?_;rintro e w1 ⟨rfl,rfl⟩)
    go_ret
    exact ⟨by rw [HY.out];rfl,rfl⟩
  ·have e4:((y:Int) % 4==0)=true:=by simp;omega
   have f4:(y % 4==0)=true:=by simp;omega
   have e100:((y:Int) % 100 != 0)=true:=by simp;omega
   have g100:((y:Int) % 100==0)=false:=by simp;omega
   have HY:=Hd (show leapN y=true by unfold leapN;simp;omega)
   clear q4 q100 f4
   go_enter Tryz.func168,Tryz.ntmps168
   go_wp2_with (go_at_call 167;refine (yvalid_p y h1 h2 _).mono ?_;rintro e w1 ⟨rfl,rfl⟩)
   go_ret
   exact ⟨by rw [HY.out];rfl,rfl⟩
 ·have e4:((y:Int) % 4==0)=false:=by simp;omega
  have f4:(y % 4==0)=false:=by simp;omega
  have HY:=Hd (show leapN y=false by unfold leapN;simp;omega)
  clear q4 f4
  go_enter Tryz.func168,Tryz.ntmps168
  go_wp2_with (go_at_call 167;refine (yvalid_p y h1 h2 _).mono ?_;rintro e w1 ⟨rfl,rfl⟩)
  go_ret
  exact ⟨by rw [HY.out];rfl,rfl⟩
set_option maxRecDepth 100000 in
theorem start_p (k:Int) (n:Nat) (hk:k=n+1) (h:n≤9999) (w:World):Calls Tryz.prog 158 #[.int .i64 k] w (fun e w'=>e=.returned (.int .i64 (startN (n+1)))∧w'=w):=by
 subst hk
 have HS:=Hd (show ((startN (n+1):Nat):Int)=365 * (n:Int)+(n:Int) / 4-(n:Int) / 100+(n:Int) / 400 by unfold startN;simp only [Nat.add_sub_cancel];omega)
 go_enter Tryz.func158,Tryz.ntmps158
 go_wp2_with fail
 go_ret
 refine ⟨?_,rfl⟩
 rw [HS.out]
 first | rfl | (congr 2;omega)
set_option maxRecDepth 100000 in
theorem known_p (n:Nat) (h:n≤3652058) (w:World):Calls Tryz.prog 157 #[.int .i64 n] w (fun e w'=>e=.returned (.bool true)∧w'=w):=by
 have d1:decide ((n:Int)≤3652058)=true:=decide_eq_true (by omega)
 have d2:decide ((0:Int)≤n)=true:=decide_eq_true (by omega)
 go_enter Tryz.func157,Tryz.ntmps157
 go_wp2_with fail
 go_ret
 exact ⟨by first | rfl | (rw [← d1];rfl),rfl⟩
set_option maxRecDepth 100000 in
set_option maxHeartbeats 6400000 in
theorem month_p (k m:Int) (y mm:Nat) (hk:k=y) (hm:m=mm) (h1:1≤y) (h2:y≤9999) (m1:1≤mm) (m2:mm≤12) (w:World):Calls Tryz.prog 159 #[.int .i64 k,.int .i64 m] w (fun e w'=>e=.returned (.int .i64 (monN y mm))∧Below w.heap.size w w'):=by
 subst hk
 have hc:mm=1∨mm=2∨mm=3∨mm=4∨mm=5∨mm=6∨mm=7∨mm=8∨mm=9∨mm=10∨mm=11∨mm=12:=by omega
 clear m1 m2
 rcases hc with rfl | rfl | rfl | rfl | rfl | rfl | rfl | rfl | rfl | rfl | rfl | rfl
 case inr.inl =>
  subst hm
  obtain ⟨b,hb⟩:∃ b,b=leapN y:=⟨_,rfl⟩
  have HB:=Hd hb
  clear hb
  cases b with
  | true =>
    have HM:=Hd (show monN y 2=29 by unfold monN;rw [if_pos rfl,if_pos HB.out.symm])
    go_enter Tryz.func159,Tryz.ntmps159
    go_wp2_with (first
     | (go_at_call 167;refine (yvalid_p y h1 h2 _).mono ?_;rintro e w1 ⟨rfl,rfl⟩)
     | (go_at_call 168;refine (leap_p y h1 h2 _).mono ?_;rw [← HB.out];rintro e w1 ⟨rfl,rfl⟩))
    go_ret
    exact ⟨by rw [HM.out];rfl,Below.refl _ _⟩
  | false =>
    have HM:=Hd (show monN y 2=28 by unfold monN;rw [if_pos rfl,if_neg (by rw [← HB.out];decide)])
    go_enter Tryz.func159,Tryz.ntmps159
    go_wp2_with (first
     | (go_at_call 167;refine (yvalid_p y h1 h2 _).mono ?_;rintro e w1 ⟨rfl,rfl⟩)
     | (go_at_call 168;refine (leap_p y h1 h2 _).mono ?_;rw [← HB.out];rintro e w1 ⟨rfl,rfl⟩))
    go_ret
    exact ⟨by rw [HM.out];rfl,belowBox _ _⟩
 all_goals
  subst hm
  go_enter Tryz.func159,Tryz.ntmps159
  go_wp2_with (go_at_call 167;refine (yvalid_p y h1 h2 _).mono ?_;rintro e w1 ⟨rfl,rfl⟩)
  go_ret
  exact ⟨rfl,belowBox _ _⟩
def DateR (n:Nat) (w:World) (e:Ending) (w':World):Prop:=e=.returned (.tuple #[.int .i64 (yearF n),.int .i64 (monF (yearF n) (n-startN (yearF n))),.int .i64 (dayF n),.int .i64 0])∧Below w.heap.size w w'
set_option maxRecDepth 100000 in
set_option maxHeartbeats 1600000 in
theorem date_p (n:Nat) (hn:n≤3652058) (w:World):Calls Tryz.prog 136 #[.int .i64 n] w (DateR n w):=by
 go_enter Tryz.func136,Tryz.ntmps136
 go_wp2_with (go_at_call 157;refine (known_p n hn _).mono ?_;rintro e w1 ⟨rfl,rfl⟩)
 go_simp
 go_loopw [2] (fun v wr=>∃ y:Nat,v=.int .i64 y∧1≤y∧y≤9999∧Hid (startN y≤n)∧wr=w1) (fun v _=>9999-(intOf v).toNat)
 case atStart=>exact ⟨n / 366+1,by go_num,by omega,by omega,Hd (by have:=start_big (y:=n / 366+1) (by omega);omega),rfl⟩
 case round =>
  obtain ⟨y,rfl,y1,y2,HY,hwr⟩:=hrel
  obtain rfl:w1=wr:=hwr.symm
  by_cases hgo:y<9999∧startN (y+1)≤n
  ·obtain ⟨g1,g2⟩:=hgo
   obtain ⟨s,hs⟩:∃ s,s=startN (y+1):=⟨_,rfl⟩
   have HS:=Hd hs
   rw [← hs] at g2
   clear hs
   go_wp2_with (go_at_call 158;refine (start_p _ y (by omega) (by omega) _).mono ?_;rw [← HS.out];rintro e w2 ⟨rfl,rfl⟩)
   go_roundw
   case rel=>exact ⟨y+1,by go_num,by omega,by omega,Hd (by rw [← HS.out];exact g2),by trivial⟩
   case measure=>simp [intOf];omega
  ·have HN:=Hd (show n<startN (y+1) by
    by_cases c:y<9999
    ·omega
    ·obtain rfl:y=9999:=by omega
     have:startN (9999+1)=3652059:=by decide
     omega)
   obtain ⟨s,hs⟩:∃ s,s=startN (y+1):=⟨_,rfl⟩
   have HS:=Hd hs
   have hns:n<s:=by rw [hs];exact HN.out
   obtain ⟨z,rfl⟩:∃ z,y=z+1:=⟨y-1,by omega⟩
   obtain ⟨t,ht⟩:∃ t,t=startN (z+1):=⟨_,rfl⟩
   have HT:=Hd ht
   have htn:t≤n:=by rw [ht];exact HY.out
   clear hs ht hgo
   have hcase:z+1<9999∨z+1=9999:=by omega
   have HR:=Hd (show ∀ m r:Nat,1≤m→m≤12→n=t+preM (z+1) m+r→r<monN (z+1) m→yearF n=z+1∧monF (yearF n) (n-startN (yearF n))=m∧dayF n=r+1 from fun m r m1 m2 hr h5=>date_eq (by omega) y2 HY.out HN.out m1 m2 (by rw [← HT.out];exact hr) h5)
   have HG:=Hd (show ∀ m r:Nat,1≤m→m≤12→n=t+preM (z+1) m+r→monN (z+1) m≤r→m<12 from fun m r m1 m2 hr h5=>by
    by_cases c:m<12
    ·exact c
    ·obtain rfl:m=12:=by omega
     have e1:=preM_13 (z+1)
     have e2:=start_s (y:=z+1) (by omega)
     have e3:preM (z+1) 13=preM (z+1) 12+monN (z+1) 12:=rfl
     have e4:=HN.out
     have e5:=HT.out
     omega)
   rcases hcase with hc | hc
   all_goals
    go_wp2_with (first
     | (go_at_call 158;refine (start_p _ (z+1) (by omega) (by omega) _).mono ?_;rw [← HS.out];rintro e w2 ⟨rfl,hw2⟩;obtain rfl:w1=w2:=hw2.symm)
     | (go_at_call 158;refine (start_p _ z (by omega) (by omega) _).mono ?_;rw [← HT.out];rintro e w2 ⟨rfl,hw2⟩;obtain rfl:w1=w2:=hw2.symm))
    go_simp
    go_loopw [3,6] (fun mv rv wr=>∃ m r:Nat,mv=.int .i64 m∧rv=.int .i64 r∧1≤m∧m≤12∧r≤4000000∧Hid (n=t+preM (z+1) m+r)∧Hid (Below w1.heap.size w1 wr)) (fun _ rv _=>(intOf rv).toNat)
    case atStart=>exact ⟨1,n-t,rfl,by congr 1;omega,by omega,by omega,by omega,Hd (show n=t+0+(n-t) by omega),Hd (Below.refl _ _)⟩
    case round =>
     obtain ⟨m,r,rfl,rfl,m1,m2,hr4,HE,HB⟩:=hrel
     obtain ⟨q,hq⟩:∃ q,q=monN (z+1) m:=⟨_,rfl⟩
     have HQ:=Hd hq
     have hq1:28≤q:=by rw [hq];exact (monN_pos _ _).1
     have hq2:q≤31:=by rw [hq];exact (monN_pos _ _).2
     clear hq
     by_cases hrq:q≤r
     ·have hm12:m<12:=HG.out m r m1 m2 HE.out (by rw [← HQ.out];exact hrq)
      go_wp2_with (go_at_call 159;refine (month_p _ _ (z+1) m (by omega) rfl (by omega) y2 m1 m2 _).mono ?_;rw [← HQ.out];rintro e w3 ⟨rfl,hb3⟩;replace HB:=Hd (belowThen HB.out hb3);clear hb3)
      go_roundw
      case rel=>exact ⟨m+1,r-q,by go_num,by congr 1;omega,by omega,by omega,by omega,Hd (by
       have e1:preM (z+1) (m+1)=preM (z+1) m+monN (z+1) m:=by
        obtain ⟨k,rfl⟩:∃ k,m=k+1:=⟨m-1,by omega⟩
        rfl
       have e2:=HE.out
       have e3:=HQ.out
       omega),HB⟩
      case measure=>simp [intOf];omega
     ·have HZ:=Hd (HR.out m r m1 m2 HE.out (by rw [← HQ.out];omega))
      go_wp2_with (go_at_call 159;refine (month_p _ _ (z+1) m (by omega) rfl (by omega) y2 m1 m2 _).mono ?_;rw [← HQ.out];rintro e w3 ⟨rfl,hb3⟩;replace HB:=Hd (belowThen HB.out hb3);clear hb3)
      (try simp only [Exit.inBlock,Exit.then])
      refine bodyPost_ret (results_tmp4 rfl _ _ _) rfl ?_
      refine ⟨?_,HB.out⟩
      rw [HZ.out.2.1,HZ.out.2.2,HZ.out.1]
      first | rfl | (simp;omega) | simp
end Go.Proofs.YtniljgkkcnekgaaGreatDoor

/- Times as texts: package moment's texts. -/
namespace Go.Proofs.YtniljgkkcnekgaaGreatDoor
open Go.RowKit
def szS:Value→Nat | .string s=>s.size | _=>0
set_option maxRecDepth 100000 in
set_option maxHeartbeats 3200000 in
theorem dateText_p (n:Nat) (hn:n≤3652058) (w:World):Calls Tryz.prog 115 #[.int .i64 n] w (StrB (dateS n) w):=by
 have HD:=Hd (date_p n hn w)
 have h1:yearF n≤4000000000:=by have:=yearF_le n;omega
 have h2:monF (yearF n) (n-startN (yearF n))≤4000000000:=by have:=monF_le (yearF n) (n-startN (yearF n));omega
 have h3:dayF n≤4000000000:=by have:=dayF_le n;omega
 have HS:=Hd (show pdS (yearF n) 4++⟨#[45]⟩++pdS (monF (yearF n) (n-startN (yearF n))) 2++⟨#[45]⟩++pdS (dayF n) 2=dateS n from rfl)
 unfold DateR at HD
 generalize dateS n=r at *
 generalize monF (yearF n) (n-startN (yearF n))=m at *
 generalize yearF n=y at *
 generalize dayF n=d at *
 obtain ⟨a,ha⟩:∃ a,pdS y 4=a:=⟨_,rfl⟩
 obtain ⟨b,hb⟩:∃ b,pdS m 2=b:=⟨_,rfl⟩
 obtain ⟨c,hc⟩:∃ c,pdS d 2=c:=⟨_,rfl⟩
 have z1:a.size=4:=by rw [← ha];exact pdS_size _ _
 have z2:b.size=2:=by rw [← hb];exact pdS_size _ _
 have z3:c.size=2:=by rw [← hc];exact pdS_size _ _
 have HA:=Hd (fun u=>ha ▸ digits_p y 4 y 4 rfl rfl h1 (by omega) (by omega) u)
 have HB:=Hd (fun u=>hb ▸ digits_p m 2 m 2 rfl rfl h2 (by omega) (by omega) u)
 have HC:=Hd (fun u=>hc ▸ digits_p d 2 d 2 rfl rfl h3 (by omega) (by omega) u)
 rw [ha,hb,hc] at HS
 clear ha hb hc h1 h2 h3
 go_enter Tryz.func115,Tryz.ntmps115
 go_wp2_with fail
 refine HD.out.mono ?_
 rintro e w1 ⟨rfl,hb1⟩
 have H1:=Hd hb1
 clear hb1
 go_wp2_with fail
 refine (HA.out w1).mono ?_
 rintro e w2 ⟨rfl,hb2⟩
 have H2:=Hd (belowThen H1.out hb2)
 clear hb2
 go_wp2_with fail
 refine (HB.out w2).mono ?_
 rintro e w3 ⟨rfl,hb3⟩
 have H3:=Hd (belowThen H2.out hb3)
 clear hb3
 go_wp2_with fail
 refine (HC.out w3).mono ?_
 rintro e w4 ⟨rfl,hb4⟩
 have H4:=Hd (belowThen H3.out hb4)
 clear hb4
 go_wp2_with fail
 go_ret
 exact ⟨by rw [← HS.out];rfl,H4.out⟩
end Go.Proofs.YtniljgkkcnekgaaGreatDoor

/- Times as texts: moment.offsetText. -/
namespace Go.Proofs.YtniljgkkcnekgaaGreatDoor
open Go.RowKit
set_option maxRecDepth 100000 in
set_option maxHeartbeats 800000 in
theorem offsetText_p (o:Int) (h1:-1439≤o) (h2:o≤1439) (w:World):Calls Tryz.prog 117 #[.int .i64 o] w (StrB (offS o) w):=by
 by_cases h0:o=0
 ·subst h0
  go_enter Tryz.func117,Tryz.ntmps117
  go_wp2_with fail
  go_ret
  exact ⟨rfl,Below.refl _ _⟩
 have h01:(o==0)=false:=by simpa using h0
 obtain ⟨n,hn⟩:∃ n,o.natAbs=n:=⟨_,rfl⟩
 have hn4:n≤1439:=by omega
 obtain ⟨h,hh⟩:∃ h,n / 60=h:=⟨_,rfl⟩
 obtain ⟨m,hm⟩:∃ m,n % 60=m:=⟨_,rfl⟩
 have u1:(n:Int).tdiv 60=(h:Int):=by rw [Int.tdiv_eq_ediv_of_nonneg (by omega)];omega
 have u2:(n:Int) / 60=(h:Int):=by omega
 have u3:(n:Int).tmod 60=(m:Int):=by rw [Int.tmod_eq_emod_of_nonneg (by omega)];omega
 have u4:(n:Int) % 60=(m:Int):=by omega
 have HS:=Hd (show offS o=(if o<0 then ⟨#[45]⟩ else ⟨#[43]⟩)++pdS h 2++⟨#[58]⟩++pdS m 2 by unfold offS;rw [if_neg h0,hn,hh,hm])
 obtain ⟨a,ha⟩:∃ a,pdS h 2=a:=⟨_,rfl⟩
 obtain ⟨b,hb⟩:∃ b,pdS m 2=b:=⟨_,rfl⟩
 have z1:a.size=2:=by rw [← ha];exact pdS_size _ _
 have z2:b.size=2:=by rw [← hb];exact pdS_size _ _
 have HA:=Hd (fun u=>ha ▸ digits_p h 2 h 2 rfl rfl (by omega) (by omega) (by omega) u)
 have HB:=Hd (fun u=>hb ▸ digits_p m 2 m 2 rfl rfl (by omega) (by omega) (by omega) u)
 rw [ha,hb] at HS
 by_cases hneg:o<0
 ·have HR:=Hd (show offS o=⟨#[45]⟩++a++⟨#[58]⟩++b by rw [HS.out,if_pos hneg])
  have hno:-o=(n:Int):=by omega
  have q1:(⟨#[45]⟩:ByteArray).size+a.size≤9223372036854775807:=by rw [z1];decide
  clear ha hb hh hm h0 hn HS
  go_enter Tryz.func117,Tryz.ntmps117
  go_wp2_with fail
  refine (HA.out _).mono ?_
  rintro e w2 ⟨rfl,hb2⟩
  have H2:=Hd hb2
  clear hb2
  go_wp2_with fail
  refine (HB.out w2).mono ?_
  rintro e w3 ⟨rfl,hb3⟩
  have H3:=Hd (belowThen H2.out hb3)
  clear hb3
  go_wp2_with fail
  go_ret
  exact ⟨by rw [HR.out];rfl,H3.out⟩
 ·have HR:=Hd (show offS o=⟨#[43]⟩++a++⟨#[58]⟩++b by rw [HS.out,if_neg hneg])
  have hno:o=(n:Int):=by omega
  have q1:(⟨#[43]⟩:ByteArray).size+a.size≤9223372036854775807:=by rw [z1];decide
  clear ha hb hh hm h0 hn HS
  subst hno
  go_enter Tryz.func117,Tryz.ntmps117
  go_wp2_with fail
  refine (HA.out _).mono ?_
  rintro e w2 ⟨rfl,hb2⟩
  have H2:=Hd hb2
  clear hb2
  go_wp2_with fail
  refine (HB.out w2).mono ?_
  rintro e w3 ⟨rfl,hb3⟩
  have H3:=Hd (belowThen H2.out hb3)
  clear hb3
  go_wp2_with fail
  go_ret
  exact ⟨by rw [HR.out];rfl,H3.out⟩
end Go.Proofs.YtniljgkkcnekgaaGreatDoor
