/- Comparisons of numbers, strings and digits: the program's and the reference's small functions. -/
import Derived.Test.YtmjfggadehkbjaaGreatDoorProg
import Derived.Test.YtmjfggadehkbjaaGreatDoorGA
import Derived.Test.YtmjfggadehkbjaaGreatDoorGB
import Derived.Test.YtmjfggadehkbjaaGreatDoorShelf
import Derived.Test.YtmjfggadehkbjaaGreatDoorXA
import Derived.Deep.RegionHeld3
import Derived.Below
import Derived.Laws.AppendOwn
import Derived.Deep.Slices
import Derived.Lib.Hide
import Derived.Deep.MidRow
import Derived.WalkKit
import Derived.WalkSpells
import Derived.WalkLawsBesides
import Derived.LoopTactic
import Derived.BigQuiet
import Derived.Deep.QuietTactic
import Derived.Laws.BytesArg
import Derived.OwnWalk
import Derived.Shelf.Strings.Builder1
import Derived.Shelf.Strings.Builder2
import Derived.Shelf.Strings.Trim
import Derived.Shelf.Small.Utf8
import Derived.Shelf.Small.Strs
import Derived.Shelf.Strings.BuilderF
import Derived.Shelf.Strings.BuilderK
import Derived.Shelf.Utf8.RuneCount
import Derived.Shelf.Strings.Builder2Cap
import Derived.Shelf.Strings.Search1
import Derived.Shelf.Strings.Search2
import Derived.Shelf.Strings.Search3
import Derived.Shelf.Strings.Count
import Derived.Shelf.LaysM
import Derived.Shelf.Strings.Shaped
import Derived.Shelf.Strings.Prefix
import Derived.Shelf.Strings.Split
import Derived.Shelf.Strings.SplitShaped
import Derived.Shelf.Unicode.Decode
import Derived.Shelf.Strings.Runes
import Derived.Shelf.Strings.RuneCount
import Derived.Shelf.Strings.AsciiSet
import Derived.Shelf.Strings.Explode
import Derived.Shelf.Bits.Mul64
import Derived.Shelf.Strings.Repeat
import Derived.Shelf.Unicode.DecodeSlow
import Derived.Shelf.Unicode.DecodeAny
import Derived.Shelf.Unicode.DecodeLast
import Derived.Ground.Names2Prog
import Derived.Shelf.Slices.SearchI
import Derived.Deep.AppendLies
import Derived.Lib.Repeat
import Derived.Laws.OwnMore
import Derived.Lib.SliceRun
import Derived.OrdersHeld
import Derived.Laws.CopyOwn
import Derived.Deep.WholeRow
import Derived.Laws.CopyRow
import Derived.Maps.OwnOps
import Derived.Maps.OwnSet
import Derived.Maps.Views
import Derived.Deep.Light
import Derived.Lib.Bytealg
import Derived.StillTailTactics
import Derived.Deep.DeepCutAuto
import Derived.Great.BuildSlice
import Derived.Sort.Walk0
import Derived.Deep.DeepMust
namespace Go.Proofs.YtmjfggadehkbjaaGreatDoor
open Go.RowKit
def IntE (k:Int) (w:World) (e:Ending) (w':World):Prop:=e=.returned (.int .i64 k)∧w'=w
theorem sgn_lt {a b:Int} (h:a<b):sgn a b=-1:=by unfold sgn;rw [if_pos h]
theorem sgn_gt {a b:Int} (h:b<a):sgn a b=1:=by unfold sgn;rw [if_neg (by omega),if_pos h]
theorem less_yes {a b:ByteArray} (h:a.data.toList<b.data.toList):Op.bytesLess a.toList b.toList=true:=by
 rw [Go.Proofs.bytesLess_eq,ByteArray.toList_eq,ByteArray.toList_eq]
 exact decide_eq_true h
theorem less_no {a b:ByteArray} (h:¬ a.data.toList<b.data.toList):Op.bytesLess a.toList b.toList=false:=by
 rw [Go.Proofs.bytesLess_eq,ByteArray.toList_eq,ByteArray.toList_eq]
 exact decide_eq_false h
theorem dcmp_p (a b:ByteArray) (w:World):Calls Tryz.prog 108 #[.string a,.string b] w (IntE (lenC a b) w):=by
 by_cases h1:a.size<b.size
 ·have HS:=Hd (show lenC a b=-1 by unfold lenC;rw [if_pos h1])
  have hn:((a.size:Int) != (b.size:Int))=true:=by simp;omega
  go_enter Tryz.func108,Tryz.ntmps108
  go_wp2_with fail
  go_ret
  exact ⟨by rw [HS.out];rfl,rfl⟩
 ·by_cases h2:b.size<a.size
  ·have HS:=Hd (show lenC a b=1 by unfold lenC;rw [if_neg h1,if_pos h2])
   have hn:((a.size:Int) != (b.size:Int))=true:=by simp;omega
   go_enter Tryz.func108,Tryz.ntmps108
   go_wp2_with fail
   go_ret
   exact ⟨by rw [HS.out];rfl,rfl⟩
  ·have HS:=Hd (show lenC a b=cmpS a b by unfold lenC;rw [if_neg h1,if_neg h2])
   have hn:((a.size:Int) != (b.size:Int))=false:=by simp;omega
   go_enter Tryz.func108,Tryz.ntmps108
   go_wp2_with (go_at_call 92;refine (Tryz.strings_Compare _ _ _).mono ?_;rintro e w1 ⟨rfl,rfl⟩)
   go_ret
   exact ⟨by rw [HS.out,← cmpB_S];rfl,rfl⟩
end Go.Proofs.YtmjfggadehkbjaaGreatDoor

/- Comparisons of numerals (datakitref01.Cmp), of bytes (slices.Compare). -/
namespace Go.Proofs.YtmjfggadehkbjaaGreatDoor
open Go.RowKit
theorem cmp01_r (a b:ByteArray) (w:World):Calls Tryz.prog 129 #[.string a,.string b] w (IntE (lenC a b) w):=by
 by_cases h1:a.size<b.size
 ·have HS:=Hd (show lenC a b=-1 by unfold lenC;rw [if_pos h1])
  go_enter Tryz.func129,Tryz.ntmps129
  go_wp2_with fail
  go_ret
  exact ⟨by rw [HS.out];rfl,rfl⟩
 ·have h1':decide ((a.size:Int)<(b.size:Int))=false:=by simp;omega
  by_cases h2:b.size<a.size
  ·have HS:=Hd (show lenC a b=1 by unfold lenC;rw [if_neg h1,if_pos h2])
   have hn:((a.size:Int)==(b.size:Int))=false:=by simp;omega
   have q3:(a.toList==b.toList)=false:=by
    rw [ByteArray.toList_eq,ByteArray.toList_eq]
    refine beq_eq_false_iff_ne.2 fun e=>?_
    have:=congrArg List.length e
    have e1:a.data.toList.length=a.size:=rfl
    have e2:b.data.toList.length=b.size:=rfl
    omega
   go_enter Tryz.func129,Tryz.ntmps129
   go_wp2_with fail
   go_ret
   exact ⟨by rw [HS.out];rfl,rfl⟩
  ·have hs:a.size=b.size:=by omega
   clear h1'
   by_cases h3:a.data.toList<b.data.toList
   ·have HS:=Hd (show lenC a b=-1 by unfold lenC cmpS;rw [if_neg h1,if_neg h2,if_pos h3])
    have q1:=less_yes h3
    clear h1 h2 h3
    go_enter Tryz.func129,Tryz.ntmps129
    go_wp2_with fail
    go_ret
    exact ⟨by rw [HS.out];rfl,rfl⟩
   ·have q1:=less_no h3
    by_cases h4:b.data.toList<a.data.toList
    ·have HS:=Hd (show lenC a b=1 by unfold lenC cmpS;rw [if_neg h1,if_neg h2,if_neg h3,if_pos h4])
     have q3:(a.toList==b.toList)=false:=by
      rw [ByteArray.toList_eq,ByteArray.toList_eq]
      exact beq_eq_false_iff_ne.2 fun e=>List.lt_irrefl _ (e ▸ h4)
     clear h1 h2 h3 h4
     go_enter Tryz.func129,Tryz.ntmps129
     go_wp2_with fail
     go_ret
     exact ⟨by rw [HS.out];rfl,rfl⟩
    ·have HS:=Hd (show lenC a b=0 by unfold lenC cmpS;rw [if_neg h1,if_neg h2,if_neg h3,if_neg h4])
     have q3:(a.toList==b.toList)=true:=by
      rw [ByteArray.toList_eq,ByteArray.toList_eq]
      exact beq_iff_eq.2 (List.le_antisymm (List.not_lt.1 h4) (List.not_lt.1 h3))
     clear h1 h2 h3 h4
     go_enter Tryz.func129,Tryz.ntmps129
     go_wp2_with fail
     go_ret
     exact ⟨by rw [HS.out];rfl,rfl⟩
end Go.Proofs.YtmjfggadehkbjaaGreatDoor

/- Comparison of bytes (slices.Compare). -/
namespace Go.Proofs.YtmjfggadehkbjaaGreatDoor
open Go.RowKit
theorem BytesAt.cellK {w:World} {B:Nat} {l:List Int} {a:Option Addr} (h:BytesAt w B l a) (hn:l≠[]):∃ b o,a=some ⟨b,o,none⟩∧∀ k (hk:k<l.length),w.cell? ⟨b,o+k,none⟩=some (.int .u8 l[k]):=by
 rcases h with h | ⟨b,o,rfl,_,hc,_⟩
 ·exact absurd h hn
 ·exact ⟨b,o,rfl,fun k hk=>by
   have:=hc k (by rw [List.length_map];exact hk)
   rw [this,List.getElem?_map,List.getElem?_eq_getElem hk]
   rfl⟩
end Go.Proofs.YtmjfggadehkbjaaGreatDoor

/- The moment of a time: datakitref05.split, moment; moment.carry, moment. -/
namespace Go.Proofs.YtmjfggadehkbjaaGreatDoor
open Go.RowKit
end Go.Proofs.YtmjfggadehkbjaaGreatDoor

/- The moment of a time: moment.carry, moment.moment. -/
namespace Go.Proofs.YtmjfggadehkbjaaGreatDoor
open Go.RowKit
end Go.Proofs.YtmjfggadehkbjaaGreatDoor

/- Comparison of times: moment.compare, moment.Cmp. -/
namespace Go.Proofs.YtmjfggadehkbjaaGreatDoor
open Go.RowKit
def CmpE (k:Int) (w:World) (e:Ending) (w':World):Prop:=e=.returned (.int .i64 k)∧Below w.heap.size w w'
end Go.Proofs.YtmjfggadehkbjaaGreatDoor

/- Comparison of times: moment.Cmp. -/
namespace Go.Proofs.YtmjfggadehkbjaaGreatDoor
open Go.RowKit
end Go.Proofs.YtmjfggadehkbjaaGreatDoor

/- Comparison of times: datakitref05.Cmp. -/
namespace Go.Proofs.YtmjfggadehkbjaaGreatDoor
open Go.RowKit
end Go.Proofs.YtmjfggadehkbjaaGreatDoor
