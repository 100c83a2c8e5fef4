/- For any list of values of bulk at most 1048576 (the law's second form): sort gives all elements of a valid list in ascending order, where equal ones keep theirs, and changes nothing the second time (the law BuiltinSorts; a tied card over tables of the library, one of them pinned). No other conditions. -/
import Derived.Test.YtagkjofpncpcpaaGreatDoorRows
import Derived.Test.YtagkjofpncpcpaaGreatDoorCards
import Derived.Test.YtagkjofpncpcpaaGreatDoorTie
import Derived.Test.YtagkjofpncpcpaaGreatDoorProg
import Derived.Test.YtagkjofpncpcpaaGreatDoorGA
import Derived.Test.YtagkjofpncpcpaaGreatDoorGD
import Derived.Test.YtagkjofpncpcpaaGreatDoorGF
import Derived.Test.YtagkjofpncpcpaaGreatDoorNam37
import Derived.Test.YtagkjofpncpcpaaGreatDoorSol37
import Derived.Test.YtagkjofpncpcpaaGreatDoorOpen
import Derived.Test.YtagkjofpncpcpaaGreatDoorOpv37
import Derived.Test.YtagkjofpncpcpaaGreatDoorFsc
import Derived.Test.YtagkjofpncpcpaaGreatDoorFsd
import Derived.LaidMore
import Derived.Stop.Joined
import Derived.Lay
import Derived.LaidOnce
import Derived.JoinedCond
import Derived.Deep.DeepHandedRow
import Derived.Lib.LaidTab
import Derived.Lib.LaidU8
namespace Go.Proofs.YtagkjofpncpcpaaGreatDoor
namespace sorts
open Go.ChangeShapes Go.WideShapes Go.ChangeAt Go.RowKit Go.Deep
open Go.ChangeMaps (open_string shut_string)
theorem own:ownKnob Tryz.prog.godebug=none:=by kernel_rfl
theorem laidOut:laidOutB Tryz.prog=true:=by kernel_rfl
abbrev laidList : List (String × DataW Unit) := [("math/bits.deBruijn32tab", Rows.laid_math_bits_deBruijn32tab), ("math/bits.deBruijn64tab", Rows.laid_math_bits_deBruijn64tab), ("internal/strconv.uint64pow10", Rows.laid_internal_strconv_uint64pow10), ("unicode/utf8.acceptRanges", Rows.laid_unicode_utf8_acceptRanges), ("strconv.ErrRange", Rows.laid_strconv_ErrRange), ("strconv.ErrSyntax", Rows.laid_strconv_ErrSyntax), ("unicode.White_Space", Rows.laid_unicode_White_Space), ("strings.asciiSpace", Rows.laid_strings_asciiSpace), ("unicode/utf8.first", Rows.laid_unicode_utf8_first)]
theorem gA : Tryz.prog.globalNamed "strings.asciiSpace" = some 0 := by kernel_rfl
theorem tA:(Tryz.prog.globals[0]?).map (·.type)=some 188:=by kernel_rfl
theorem cellsA:Tryz.prog.cellsOf 188=256:=by kernel_rfl
theorem cellsU:Tryz.prog.cellsOf 5=1:=by kernel_rfl
theorem tabEq:(Rows.laid_strings_asciiSpace:DataW Unit)=Lib.tabData .u8 Lib.asciiSpaceTab:=by kernel_rfl
theorem tab_of {W:World} (h:laidMetH Tryz.prog laidList W):TabAt W:=by
 rw [MakeChecks.laidMetH_plain _ _ _ (by kernel_rfl)] at h
 obtain ⟨g1, t1, cs1, f1, p1, hg1, ht1, hv1, hd1⟩ := Lib.laidMet.reads (n := "strings.asciiSpace") (d := Rows.laid_strings_asciiSpace) h (by simp)
 obtain rfl:=Option.some.inj (gA.symm.trans hg1)
 obtain rfl:=Option.some.inj (tA.symm.trans ht1)
 rw [tabEq] at hd1
 unfold TabAt Lib.TabIs
 rw [hv1,← Lib.cells_of_tab Tryz.underlying188 Tryz.underlying5 cellsU cellsA hd1]
set_option maxRecDepth 100000 in
theorem contract (H:Type) (enc:TypeId×Value→H) (W:World) (base:Nat) (args:Array Value) (ds gs:List (DataW H)) (before:List MemPlace)
 (hval:∀ (j:Nat) t v,Tryz.f3.params[j]?=some t→args[j]?=some v→Value.okWide Tryz.prog W .any base t v)
 (hW:DataW.Whole enc Tryz.prog Tryz.f3.params.toList Rows.builtinSortsSpec.vars false W args.toList ds gs before) (hk:Rows.uptoSmall H (ds++gs)=true) (hT:TabAt W) :
 Calls Tryz.prog 3 args W fun e W'=>∃ v,e=.returned v∧Rows.builtinSortsSpec.post enc Tryz.prog Tryz.f3 false true false false W args v W':=by
 have hW':=hW
 obtain ⟨p,q,hA0,hV,rfl,hfz,hnd⟩:=hW
 have hA:DataW.TrodAll enc Tryz.prog W 0 (fun _=>true) true Tryz.f3.params.toList args.toList ds p:=hA0
 rw [Tryz.params3] at hA hval
 obtain ⟨v1,vs1,d1,ds1,p1,q1,hargs,rfl,rfl,h1,r1⟩:=trodAll_cons hA
 obtain ⟨rfl,rfl,rfl⟩:=trodAll_nil r1
 obtain rfl:args=#[v1]:=by cases args;simp_all
 obtain ⟨rfl,rfl⟩:=trodVars_none hV
 obtain ⟨va,vn,vc,rfl⟩:=okWide_slice Tryz.underlying22 (hval 0 22 v1 rfl rfl)
 have k1:=h1
 have lt1:∀ x∈p1,x.block<W.heap.size:=by obtain ⟨m,hm⟩:=k1;exact DataW.trod_lt m _ _ _ hm
 have hb:Rows.uptoBulk d1≤1048576:=by
  have h:Rows.uptoBulkAll [d1]≤1048576:=of_decide_eq_true hk
  simp only [Rows.uptoBulkAll] at h
  omega
 obtain ⟨l,hln,hll,hx⟩:∃ l,vn=List.length l∧l.length≤1048576∧ValsAt W W.heap.size 1048576 l va:=by
  obtain ⟨fuel,hf⟩:=h1
  have hf':DataW.trod enc Tryz.prog W 0 (fun _=>true) true fuel 22 [.slice va vn vc]=some (d1,p1):=hf
  obtain ⟨a,c,l,e,hl1,hl⟩:=open_SV hf' (.inr hb)
  cases e
  exact ⟨l,rfl,hl1,hl⟩
 clear hA0
 subst hln
 have hl:Calls Tryz.prog 3 #[.slice va l.length vc] W (YesB W):=law37s l va vc W 1048576 (by omega) hll hT hx
 refine hl.mono fun e W' ⟨he,bel⟩=>?_
 subst he
 exact ⟨_,rfl,_,_,_,[],_,[],hW',trodAll_mk1 (shut_bool Tryz.underlying4 _),
  (trodAll_cons_mk (Below.trod laidOut (by kernel_rfl) (of_decide_eq_true (by kernel_rfl)) k1 bel lt1) trodAll_mk0),rfl,bel.frame _,fun h=>by cases h⟩
def zeroArg:Value:=.slice none 0 0
def zeroData (H:Type):DataW H:=.nil
theorem reads (os:Os) {H:Type} (enc:TypeId×Value→H):∃ places,DataW.whole enc Tryz.prog ((World.laidAll Tryz.prog os laidList).forCall (fun _ _=>0) ⟨#[],#[zeroArg],[]⟩).memory Tryz.f3.params.toList Rows.builtinSortsSpec.vars false #[zeroArg].toList 8=some ([zeroData H],[],places) :=
 ⟨[],by kernel_rfl⟩
set_option maxRecDepth 100000 in
theorem lifted (os:Os) (started:os.Started) (H:Type) (enc:TypeId×Value→H) (F:Stop.Interp) :
 ReturnsInHanded {} Tryz.checked os 3 .any ((Rows.OpenSpec.upto Rows.builtinSortsSpec).preRow enc Tryz.prog Tryz.f3 Rows.builtinSortsUptoRow.domain false Rows.builtinSortsUptoRow.laid) (((Rows.OpenSpec.upto Rows.builtinSortsSpec).at F).post enc Tryz.prog Tryz.f3 false true false false):=by
 obtain ⟨places,hx⟩:=reads os enc
 refine returnsInHanded_of_row (C:=Tryz.checked) (s:=Rows.OpenSpec.upto Rows.builtinSortsSpec) own started (by kernel_rfl) Tryz.func3
  ⟨World.laidAll Tryz.prog os laidList,fun _ _=>0,⟨#[],#[zeroArg],[]⟩,World.laidAll_os _ _ _,World.shaped_of_ZipB (by kernel_rfl) (by kernel_rfl),
   (Input.okWide_of_okWideB (base:=0) (show Input.okWideB Tryz.prog ((World.laidAll Tryz.prog os laidList).forCall (fun _ _=>0) ⟨#[],#[zeroArg],[]⟩) 3 ⟨#[],#[zeroArg],[]⟩=true by kernel_rfl)).1,
   (Input.okWide_of_okWideB (show Input.okWideB Tryz.prog ((World.laidAll Tryz.prog os laidList).forCall (fun _ _=>0) ⟨#[],#[zeroArg],[]⟩) 3 ⟨#[],#[zeroArg],[]⟩=true by kernel_rfl)).2,
   OpenSpec.preRow_of_cond 8 hx (by kernel_rfl) (fun k hk=>by cases hk;kernel_rfl) (by kernel_rfl) (by
    show laidMetH Tryz.prog laidList _
    rw [MakeChecks.laidMetH_plain _ _ _ (by kernel_rfl)]
    exact laidMet_laidAll _ (by kernel_rfl) (by kernel_rfl)),by
   simp only [Assume.holds]
   exact ⟨by simp,by simp,fun _=>Modest.zero,by simp,by simp⟩⟩ ?_
 intro W base args ds gs before hval hW _ hcond _ hL hsh _
 exact contract H enc W base args ds gs before hval hW (hcond _ rfl) (tab_of hL)
theorem saidUpto:Rows.BuiltinSortsUptoSaid :=
 OpenClaim.holds_of_cond 3 Tryz.f3 rfl rfl rfl rfl rfl rfl rfl ⟨rfl,rfl,rfl,rfl,rfl⟩ rfl rfl rfl rfl rfl jnamed Tryz.func3 jclosed
  jinst jwrap
  (fun os started H enc _ F=>by rw [OpenClaim.pre_eq_preRow];exact lifted os started H enc F)
theorem plain (f:FuncId) (fn:Func) (hf:Tryz.pinned.checked.prog.funcNamed Rows.builtinSortsUptoRow.func=some f) (hfn:Tryz.pinned.checked.prog.funcs[f]?=some fn) :
 true=Tryz.pinned.checked.prog.looks []∧∀ (j:Nat) t,fn.params[j]?=some t→Tryz.pinned.checked.prog.wantsStandIn t=false:=by
 obtain rfl:f=3:=Option.some.inj (jnamed.symm.trans hf) |>.symm
 obtain rfl:fn=Tryz.f3:=(Option.some.inj (Tryz.func3.symm.trans hfn)).symm
 refine ⟨jlooks,fun j t ht=>?_⟩
 rw [Tryz.params3] at ht
 have hm:t∈[22]:=by simpa using Array.mem_of_getElem? ht
 have hall:([22].all fun u=>!Tryz.prog.wantsStandIn u)=true:=by kernel_rfl
 exact (show Tryz.prog.wantsStandIn t=false by simpa using List.all_eq_true.1 hall t hm)
theorem holds:Rows.BuiltinSortsUptoCardSaid :=
 Claim7.holds_tied_plain_at .later [] [.data, .data, .data, .data, .sentinel, .sentinel, .listed, .data, .pinned] true (true, "fef05286fa9f86435fb10662b43e579e9a3a5485f2208009ac5de32a12aa63c0") true
  saidUpto (fun _ h=>by cases h) jbyText (fun _ h=>by cases h) builtinSortsUpto_row_tie rfl ⟨rfl,rfl⟩ jmain rfl plain jgoes
#print axioms holds
end sorts
end Go.Proofs.YtagkjofpncpcpaaGreatDoor
