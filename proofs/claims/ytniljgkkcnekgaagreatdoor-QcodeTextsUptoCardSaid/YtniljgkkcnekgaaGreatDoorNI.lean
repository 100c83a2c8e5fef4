/- Numbers in decimal on both sides (strconv.Itoa, datakitref41.number), the names of the operators. -/
import Derived.Test.YtniljgkkcnekgaaGreatDoorProg
import Derived.Test.YtniljgkkcnekgaaGreatDoorGA
import Derived.Test.YtniljgkkcnekgaaGreatDoorGB
import Derived.Test.YtniljgkkcnekgaaGreatDoorShelf
import Derived.Test.YtniljgkkcnekgaaGreatDoorGD
import Derived.Test.YtniljgkkcnekgaaGreatDoorGC
import Derived.Test.YtniljgkkcnekgaaGreatDoorGZ
import Derived.Test.YtniljgkkcnekgaaGreatDoorGR
import Derived.Lib.Bytealg
import Derived.StillTailTactics
import Derived.Deep.DeepCutAuto
import Derived.Great.BuildSlice
import Derived.Sort.Walk0
import Derived.Lib.Builder
import Derived.Maps.AppendAt
import Derived.Lib.ConvBytes
import Derived.Laws.IdiomCopy
namespace Go.Proofs.YtniljgkkcnekgaaGreatDoor
open Go.RowKit
theorem strOf_numsN (s:ByteArray):strOfNums (nums s)=s:=by
 apply ByteArray.ext
 apply Array.ext'
 rw [strOfNums_data]
 unfold nums
 rw [List.map_map]
 conv=>rhs;rw [← List.map_id s.data.toList]
 refine List.map_congr_left fun x _=>?_
 show UInt8.ofNat ((x.toNat:Int)).toNat=x
 rw [Int.toNat_natCast,UInt8.ofNat_toNat]
theorem below_growN (w:World) (k:Nat) (os:Array Obj):Below w.heap.size w (Sort.grow (w.drewN k) os):=by
 refine ⟨rfl,rfl,rfl,?_,fun q hq=>?_⟩
 ·simp [Sort.grow]
 ·show (w.heap++os)[q]?=w.heap[q]?
  rw [Array.getElem?_append_left hq]
def itoS (n:Int):ByteArray:=⟨(Lib.itoa n).toArray⟩
theorem dec_dig:∀ (n:Nat),n≠0→(Lib.decDigits n).map (fun b=>(b.toNat:Int))=digL n:=by
 intro n
 induction n using Nat.strongRecOn with
 | ind n ih =>
   intro h0
   rw [Lib.decDigits,digL_step h0]
   split
   ·rename_i h
    rw [show n / 10=0 by omega,digL_0,show n % 10=n by omega]
    show [((UInt8.ofNat (48+n)).toNat:Int)]=_
    rw [UInt8.toNat_ofNat_of_lt' (by show 48+n<256;omega)]
    rfl
   ·rename_i h
    rw [List.map_append,ih (n / 10) (by omega) (by omega)]
    show _++[((UInt8.ofNat (48+n % 10)).toNat:Int)]=_
    rw [UInt8.toNat_ofNat_of_lt' (by show 48+n % 10<256;omega)]
theorem nums_dec {n:Nat} (h:n≠0):(⟨(Lib.decDigits n).toArray⟩:ByteArray)=fromI n:=by
 have h1:nums ⟨(Lib.decDigits n).toArray⟩=digL n:=by rw [← dec_dig n h];unfold nums;simp
 unfold fromI
 rw [← h1]
 exact (strOf_numsN _).symm
theorem itoS_pos {n:Nat} (h:n≠0):itoS (n:Int)=fromI n:=by
 unfold itoS Lib.itoa
 rw [if_neg (by omega),Int.toNat_natCast]
 exact nums_dec h
theorem itoS_0:itoS 0=⟨#[48]⟩:=by
 unfold itoS Lib.itoa
 rw [if_neg (by omega)]
 show (⟨(Lib.decDigits 0).toArray⟩:ByteArray)=_
 rw [Lib.decDigits]
 rfl
theorem itoS_neg {n:Nat} (h:n≠0):itoS (-(n:Int))=⟨#[45]⟩++fromI n:=by
 unfold itoS Lib.itoa
 rw [if_pos (by omega),show (-(n:Int)).natAbs=n by omega,← nums_dec h]
 apply ByteArray.ext
 rw [ByteArray.data_append]
 apply Array.ext'
 simp
theorem fromI_sz {n:Nat} (h:n<1000000000000000000):(fromI n).size≤18:=by
 unfold fromI
 rw [strOfNums_size]
 exact digL_len 18 n h
theorem itoS_size {n:Int} (h1:-100000000≤n) (h2:n≤100000000):(itoS n).size≤19:=by
 by_cases h0:n=0
 ·subst h0;rw [itoS_0];decide
 by_cases hp:0<n
 ·obtain ⟨m,rfl⟩:=Int.eq_ofNat_of_zero_le (show 0≤n by omega)
  rw [itoS_pos (by omega)]
  have:=fromI_sz (n:=m) (by omega)
  omega
 ·obtain ⟨m,hm⟩:=Int.eq_ofNat_of_zero_le (show 0≤-n by omega)
  obtain rfl:n=-(m:Int):=by omega
  rw [itoS_neg (by omega),ByteArray.size_append]
  have:=fromI_sz (n:=m) (by omega)
  have e:(⟨#[45]⟩:ByteArray).size=1:=rfl
  omega
def PowAt (w : World) : Prop := Lib.TabIs Tryz.prog w "internal/strconv.uint64pow10" .u64 Lib.pow10Tab
theorem PowAt.then {w w':World} (h:PowAt w) (hb:Below w.heap.size w w'):PowAt w':=by
 have hg : Tryz.prog.globalNamed "internal/strconv.uint64pow10" = some 1 := by kernel_rfl
 have h0:=h.cell hg 0 (by decide)
 have hlt:1<w.heap.size:=World.block_lt_of_cell? w ⟨1,0,none⟩ h0
 exact var?_below hb hg hlt h
theorem itoa_p (n:Int) (h0:-9223372036854775808≤n) (h1:n≤9223372036854775807) (w:World) (ht:PowAt w):Calls Tryz.prog 16 #[.int .i64 n] w (StrB (itoS n) w) :=
 (Tryz.strconv_Itoa n h0 h1 w ht).mono (by
   rintro e w' ⟨rfl,k,os,rfl⟩
   exact ⟨rfl,below_growN w k os⟩)
set_option maxRecDepth 100000 in
set_option maxHeartbeats 3200000 in
theorem number41_nat (n:Nat) (hn:n<1000000000000000000) (w:World):Calls Tryz.prog 21 #[.int .i64 n] w (StrB (itoS n) w):=by
 by_cases h0:n=0
 ·subst h0
  have HR:=Hd itoS_0
  go_enter Tryz.func21,Tryz.ntmps21
  go_wp2_with fail
  go_ret
  exact ⟨by rw [show ((0:Nat):Int)=0 from rfl,HR.out];rfl,Below.refl _ _⟩
 ·have HR:=Hd (itoS_pos h0)
  have h1:¬ (n:Int)<0:=by omega
  have h2:((n:Int)==0)=false:=by simpa using h0
  clear h0
  go_enter Tryz.func21,Tryz.ntmps21
  go_wp2_with fail
  refine (fromInt_r n hn w).mono ?_
  rintro e w2 ⟨rfl,hb⟩
  have HB:=Hd hb
  clear hb
  go_wp2_with fail
  go_ret
  exact ⟨by rw [HR.out];rfl,HB.out⟩
set_option maxRecDepth 100000 in
set_option maxHeartbeats 3200000 in
theorem number41 (n:Int) (h1:-100000000≤n) (h2:n≤100000000) (w:World):Calls Tryz.prog 21 #[.int .i64 n] w (StrB (itoS n) w):=by
 by_cases h0:0≤n
 ·obtain ⟨m,rfl⟩:=Int.eq_ofNat_of_zero_le h0
  exact number41_nat m (by omega) w
 ·obtain ⟨m,hm⟩:=Int.eq_ofNat_of_zero_le (show 0≤-n by omega)
  have hlt:n<0:=by omega
  have hm0:m≠0:=by omega
  have HR:=Hd (show itoS n=⟨#[45]⟩++itoS m by rw [show n=-(m:Int) by omega,itoS_neg hm0,itoS_pos hm0])
  have hz:=itoS_size (n:=(m:Int)) (by omega) (by omega)
  have HM:=Hd (fun u=>number41_nat m (by omega) u)
  obtain ⟨t,ht⟩:∃ t,itoS (m:Int)=t:=⟨_,rfl⟩
  rw [ht] at HR hz HM
  have q1:(⟨#[45]⟩:ByteArray).size+t.size≤9223372036854775807:=by show 1+t.size≤_;omega
  clear h0 ht hm0
  go_enter Tryz.func21,Tryz.ntmps21
  go_wp2_with fail
  refine (HM.out w).mono ?_
  rintro e w2 ⟨rfl,hb⟩
  have HB:=Hd hb
  clear hb
  go_wp2_with fail
  go_ret
  exact ⟨by rw [HR.out];rfl,HB.out⟩
def wordsL:List (List UInt8):=[[],[112,117,115,104],[100,117,112],[112,111,112],[115,119,97,112],[108,111,97,100],[115,116,111,114,101],[102,105,101,108,100],[105,110,100,101,120],[115,108,105,99,101],[101,97,99,104],[97,114,105,116,104],[99,111,109,112,97,114,101],[98,117,105,108,116,105,110],[102,111,114,107],[106,117,109,112],[98,114,97,110,99,104],[102,97,105,108],[99,97,108,108],[114,101,116,117,114,110],[99,108,111,115,117,114,101],[105,110,118,111,107,101],[116,114,121],[100,111,110,101],[109,97,114,107],[98,114,101,97,107],[108,105,115,116],[99,111,108,108,101,99,116],[109,97,112],[114,97,105,115,101],[111,117,116,112,117,116]]
def wordB (n:Nat):ByteArray:=⟨(wordsL.getD n []).toArray⟩
theorem wordB_size (n:Nat):(wordB n).size≤7:=by
 show (wordsL.getD n []).length≤7
 by_cases h:n<31
 ·have ha:∀ l∈wordsL,l.length≤7:=by decide
  rw [List.getD_eq_getElem?_getD,List.getElem?_eq_getElem (show n<wordsL.length from h)]
  exact ha _ (List.getElem_mem _)
 ·rw [List.getD_eq_getElem?_getD,List.getElem?_eq_none (show wordsL.length≤n by show 31≤n;omega)]
  decide
end Go.Proofs.YtniljgkkcnekgaaGreatDoor

/- The names of the operators (qcode.operators). -/
namespace Go.Proofs.YtniljgkkcnekgaaGreatDoor
open Go.RowKit
def wordsRow:Array Value:=#[.string ⟨#[]⟩,.string ⟨#[112,117,115,104]⟩,.string ⟨#[100,117,112]⟩,.string ⟨#[112,111,112]⟩,.string ⟨#[115,119,97,112]⟩,.string ⟨#[108,111,97,100]⟩,.string ⟨#[115,116,111,114,101]⟩,.string ⟨#[102,105,101,108,100]⟩,.string ⟨#[105,110,100,101,120]⟩,.string ⟨#[115,108,105,99,101]⟩,.string ⟨#[101,97,99,104]⟩,.string ⟨#[97,114,105,116,104]⟩,.string ⟨#[99,111,109,112,97,114,101]⟩,.string ⟨#[98,117,105,108,116,105,110]⟩,.string ⟨#[102,111,114,107]⟩,.string ⟨#[106,117,109,112]⟩,.string ⟨#[98,114,97,110,99,104]⟩,.string ⟨#[102,97,105,108]⟩,.string ⟨#[99,97,108,108]⟩,.string ⟨#[114,101,116,117,114,110]⟩,.string ⟨#[99,108,111,115,117,114,101]⟩,.string ⟨#[105,110,118,111,107,101]⟩,.string ⟨#[116,114,121]⟩,.string ⟨#[100,111,110,101]⟩,.string ⟨#[109,97,114,107]⟩,.string ⟨#[98,114,101,97,107]⟩,.string ⟨#[108,105,115,116]⟩,.string ⟨#[99,111,108,108,101,99,116]⟩,.string ⟨#[109,97,112]⟩,.string ⟨#[114,97,105,115,101]⟩,.string ⟨#[111,117,116,112,117,116]⟩]
theorem wordsRow_at {n:Nat} (h:n<31):wordsRow[n]?=some (.string (wordB n)):=by
 have ha:∀ k,k<31→wordsRow[k]?=some (.string (wordB k)):=by
  intro k hk
  have e:wordsRow=(wordsL.map fun l=>Value.string ⟨l.toArray⟩).toArray:=by unfold wordsRow wordsL;rfl
  rw [e,List.getElem?_toArray,List.getElem?_map,List.getElem?_eq_getElem (show k<wordsL.length from hk)]
  unfold wordB
  rw [List.getD_eq_getElem?_getD,List.getElem?_eq_getElem (show k<wordsL.length from hk)]
  rfl
 exact ha n h
set_option maxRecDepth 100000 in
set_option maxHeartbeats 12800000 in
theorem operators_p (n:Nat) (h:n<31) (w:World):Calls Tryz.prog 17 #[.int .i64 n] w (StrB (wordB n) w):=by
 have hr:=wordsRow_at h
 obtain ⟨t,ht⟩:∃ t,wordB n=t:=⟨_,rfl⟩
 rw [ht] at hr ⊢
 clear ht
 have hcell:(w.alloc (.cells wordsRow 56)).cell? ⟨w.heap.size,n,none⟩=some (.string t):=by rw [World.cell?_alloc_new];exact hr
 have HI:=Hd (show (Tryz.prog.info? 56).map (·.size)=some wordsRow.size by kernel_rfl)
 have HA:=Hd (show wordsRow.all (·.oneCell')=true by kernel_rfl)
 have h1:¬ (n:Int)<0:=by omega
 have h2:¬ (31:Int)≤(n:Int):=by omega
 have h3:(n:Int)<31:=by omega
 clear hr
 go_enter Tryz.func17,Tryz.ntmps17
 go_wp2_with ((with_reducible show wpList _ _ _ (⟨none,.store 56 (.tmp 3) (.tmp 4),_,_,_,_⟩::_) _ _);refine wpList_store_new rfl 56 _ _ rfl _ wordsRow rfl rfl HI.out rfl HA.out ?_)
 go_ret
 exact ⟨rfl,belowBox _ _⟩
end Go.Proofs.YtniljgkkcnekgaaGreatDoor
