/- decimal.ToInt and datakitref02.ToInt: both compute the same of a valid decimal. -/
import Derived.Test.YtmjfggadehkbjaaGreatDoorProg
import Derived.Test.YtmjfggadehkbjaaGreatDoorGA
import Derived.Test.YtmjfggadehkbjaaGreatDoorGB
import Derived.Test.YtmjfggadehkbjaaGreatDoorGC
import Derived.Test.YtmjfggadehkbjaaGreatDoorShelf
import Derived.Test.YtmjfggadehkbjaaGreatDoorGD
import Derived.Below
import Derived.Laws.AppendOwn
import Derived.Deep.Slices
import Derived.Deep.RegionHeld3
import Derived.Lib.Hide
import Derived.Deep.MidRow
import Derived.WalkKit
import Derived.WalkSpells
import Derived.WalkLawsBesides
import Derived.LoopTactic
import Derived.BigQuiet
import Derived.Deep.QuietTactic
import Derived.Laws.BytesArg
import Derived.OwnWalk
import Derived.Shelf.Strings.Builder1
import Derived.Shelf.Strings.Builder2
import Derived.Shelf.Strings.Trim
import Derived.Shelf.Small.Utf8
import Derived.Shelf.Small.Strs
import Derived.Shelf.Strings.BuilderF
import Derived.Shelf.Strings.BuilderK
import Derived.Shelf.Utf8.RuneCount
import Derived.Shelf.Strings.Builder2Cap
import Derived.Shelf.Strings.Search1
import Derived.Shelf.Strings.Search2
import Derived.Shelf.Strings.Search3
import Derived.Shelf.Strings.Count
import Derived.Shelf.LaysM
import Derived.Shelf.Strings.Shaped
import Derived.Shelf.Strings.Prefix
import Derived.Shelf.Strings.Split
import Derived.Shelf.Strings.SplitShaped
import Derived.Shelf.Unicode.Decode
import Derived.Shelf.Strings.Runes
import Derived.Shelf.Strings.RuneCount
import Derived.Shelf.Strings.AsciiSet
import Derived.Shelf.Strings.Explode
import Derived.Shelf.Bits.Mul64
import Derived.Shelf.Strings.Repeat
import Derived.Shelf.Unicode.DecodeSlow
import Derived.Shelf.Unicode.DecodeAny
import Derived.Shelf.Unicode.DecodeLast
import Derived.Ground.Names2Prog
import Derived.Shelf.Slices.SearchI
import Derived.Deep.AppendLies
import Derived.Lib.Repeat
import Derived.Laws.OwnMore
import Derived.Lib.SliceRun
import Derived.OrdersHeld
import Derived.Laws.CopyOwn
import Derived.Deep.WholeRow
import Derived.Laws.CopyRow
import Derived.Maps.OwnOps
import Derived.Maps.OwnSet
import Derived.Maps.Views
import Derived.Deep.Light
import Derived.Lib.Bytealg
import Derived.StillTailTactics
import Derived.Deep.DeepCutAuto
import Derived.Great.BuildSlice
import Derived.Sort.Walk0
import Derived.Deep.DeepMust
namespace Go.Proofs.YtmjfggadehkbjaaGreatDoor
open Go.RowKit
theorem zerosS_size (n:Nat):(zerosS n).size=n:=by unfold zerosS;rw [strOfNums_size,List.length_replicate]
theorem byteI_append (a b:ByteArray) (i:Nat):byteI (a++b) i=if i<a.size then byteI a i else byteI b (i-a.size):=by
 unfold byteI
 by_cases h:i<a.size
 ·rw [if_pos h,dif_pos h,dif_pos (by rw [ByteArray.size_append];omega),ByteArray.getElem_append_left h]
 ·rw [if_neg h]
  by_cases h2:i-a.size<b.size
  ·rw [dif_pos h2,dif_pos (by rw [ByteArray.size_append];omega),ByteArray.getElem_append_right (by omega)]
  ·rw [dif_neg h2,dif_neg (by rw [ByteArray.size_append];omega)]
theorem byteI_zeros (n i:Nat) (h:i<n):byteI (zerosS n) i=48:=by
 rw [← byteI_eq (by rw [zerosS_size];exact h)]
 have:(zerosS n)[i]'(by rw [zerosS_size];exact h)=48:=by
  unfold zerosS strOfNums
  show (List.map _ _).toArray[i]'_=_
  simp
 rw [this]
 rfl
end Go.Proofs.YtmjfggadehkbjaaGreatDoor

/- decimal.ToInt: it computes what datakitref02.ToInt does, of a valid decimal. -/
namespace Go.Proofs.YtmjfggadehkbjaaGreatDoor
open Go.RowKit
def WhlR (b:Bool) (w:World) (e:Ending) (w':World):Prop:=e=.returned (.bool b)∧Below w.heap.size w w'
theorem whole_prog (d:DecD) (b:Bool) (w:World) (hb:decide (0≤d.exp)=b):Calls Tryz.prog 30 #[.agg #[.bool d.neg,.string d.digits,.int .i64 d.exp]] w (WhlR b w):=by
 cases b
 ·have h:d.exp<0:=by simpa using hb
  clear hb
  go_enter Tryz.func30,Tryz.ntmps30
  go_wp2_with fail
  go_ret
  exact ⟨by first | rfl | (congr 2;simp;omega),Below.box _ _⟩
 ·have h:0≤d.exp:=by simpa using hb
  clear hb
  go_enter Tryz.func30,Tryz.ntmps30
  go_wp2_with fail
  go_ret
  exact ⟨by first | rfl | (congr 2;simp;omega),Below.box _ _⟩
theorem whole_ref (d:DecD) (b:Bool) (w:World) (hb:decide (0≤d.exp)=b):Calls Tryz.prog 36 #[.agg #[.bool d.neg,.string d.digits,.int .i64 d.exp]] w (WhlR b w):=by
 cases b
 ·have h:d.exp<0:=by simpa using hb
  clear hb
  go_enter Tryz.func36,Tryz.ntmps36
  go_wp2_with fail
  go_ret
  exact ⟨by first | rfl | (congr 2;simp;omega),Below.box _ _⟩
 ·have h:0≤d.exp:=by simpa using hb
  clear hb
  go_enter Tryz.func36,Tryz.ntmps36
  go_wp2_with fail
  go_ret
  exact ⟨by first | rfl | (congr 2;simp;omega),Below.box _ _⟩
end Go.Proofs.YtmjfggadehkbjaaGreatDoor

/- decimal.align. -/
namespace Go.Proofs.YtmjfggadehkbjaaGreatDoor
open Go.RowKit
theorem rep8_ex (m:Nat) (w:World) (hm:m≤1000):Calls Tryz.prog 68 #[.string ⟨#[48]⟩,.int .i64 m] w (NouR m w):=by
 refine (Tryz.strings_Repeat ⟨#[48]⟩ m w (by omega) (by first | omega | (show 1 * m≤_;omega))).mono ?_
 rintro e w' ⟨rfl,hb⟩
 exact ⟨by rw [← strOf_rep],hb⟩
theorem results_tmp3' {fn:Func} {t u v:Tmp} (h:fn.results=#[.tmp t,.tmp u,.tmp v]) (tmps:Array Value) (P:Program) (w:World) :
 (results fn tmps).run P w=.ok (.tuple #[tmps.getD t undef,tmps.getD u undef,tmps.getD v undef]) w:=by
 simp [results,h]
end Go.Proofs.YtmjfggadehkbjaaGreatDoor

/- decimal.size, decimal.Cmp. -/
namespace Go.Proofs.YtmjfggadehkbjaaGreatDoor
open Go.RowKit
end Go.Proofs.YtmjfggadehkbjaaGreatDoor

/- decimal.Cmp. -/
namespace Go.Proofs.YtmjfggadehkbjaaGreatDoor
open Go.RowKit
end Go.Proofs.YtmjfggadehkbjaaGreatDoor

/- datakitref02.size where one of the two has no digits, or where one is longer. -/
namespace Go.Proofs.YtmjfggadehkbjaaGreatDoor
open Go.RowKit
end Go.Proofs.YtmjfggadehkbjaaGreatDoor

/- datakitref02.size where one number is longer. -/
namespace Go.Proofs.YtmjfggadehkbjaaGreatDoor
open Go.RowKit
end Go.Proofs.YtmjfggadehkbjaaGreatDoor

/- datakitref02.size where both are equally long. -/
namespace Go.Proofs.YtmjfggadehkbjaaGreatDoor
open Go.RowKit
end Go.Proofs.YtmjfggadehkbjaaGreatDoor

/- datakitref02.size, datakitref02.Cmp. -/
namespace Go.Proofs.YtmjfggadehkbjaaGreatDoor
open Go.RowKit
end Go.Proofs.YtmjfggadehkbjaaGreatDoor

/- value.compare with the comparisons that value.order hands to it. -/
namespace Go.Proofs.YtmjfggadehkbjaaGreatDoor
open Go.RowKit
theorem drewB (w:World) {B:Nat}:Below B w w.drew:=⟨rfl,rfl,rfl,Nat.le_refl _,fun _ _=>rfl⟩
theorem BytesAt.small {w:World} {B:Nat} {l:List Int} {a:Option Addr} (h:BytesAt w B l a):∀ x∈l,0≤x∧x≤255:=by
 rcases h with rfl | ⟨_,_,_,_,_,h⟩
 ·intro x hx;cases hx
 ·exact h
structure Duo (w W:World) (cs ds:List Value):Prop where
 below:Below w.heap.size w W
 one:CellsAt W w.heap.size 0 cs
 two:CellsAt W (w.heap.size+1) 0 ds
 size:w.heap.size+2≤W.heap.size
theorem Duo.later {w W W':World} {cs ds:List Value} (h:Duo w W cs ds) (hb:Below W.heap.size W W'):Duo w W' cs ds :=
 ⟨belowThen h.below hb,h.one.below hb (by have:=h.size;omega),h.two.below hb (by have:=h.size;omega),Nat.le_trans h.size hb.size⟩
theorem duo_boxes (w:World) (cs ds:List Value) (t:TypeId):Duo w ((w.alloc (.cells cs.toArray t)).alloc (.cells ds.toArray t)) cs ds:=by
 have hs1:(w.alloc (.cells cs.toArray t)).heap.size=w.heap.size+1:=by rw [World.size_alloc]
 have hs2:((w.alloc (.cells cs.toArray t)).alloc (.cells ds.toArray t)).heap.size=w.heap.size+2:=by rw [World.size_alloc,World.size_alloc]
 refine ⟨belowThen (belowBox w _) (belowBox _ _),(box_at w cs t).then (belowBox _ _) (by omega),?_,by omega⟩
 have:=box_at (w.alloc (.cells cs.toArray t)) ds t
 rw [hs1] at this
 exact this
end Go.Proofs.YtmjfggadehkbjaaGreatDoor
