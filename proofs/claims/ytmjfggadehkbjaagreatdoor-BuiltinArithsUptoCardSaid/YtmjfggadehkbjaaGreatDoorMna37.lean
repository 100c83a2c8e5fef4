/- For every operator and any two values of bulk at most 1048576 (the law's second form): Arith of the program gives what the document specifies, of values that are valid and small (the law BuiltinAriths; a tied card over two tables of the library, one of them pinned). No other conditions. -/
import Derived.Test.YtmjfggadehkbjaaGreatDoorRows
import Derived.Test.YtmjfggadehkbjaaGreatDoorCards
import Derived.Test.YtmjfggadehkbjaaGreatDoorTie
import Derived.Test.YtmjfggadehkbjaaGreatDoorProg
import Derived.Test.YtmjfggadehkbjaaGreatDoorGA
import Derived.Test.YtmjfggadehkbjaaGreatDoorShelf
import Derived.Test.YtmjfggadehkbjaaGreatDoorGD
import Derived.Test.YtmjfggadehkbjaaGreatDoorGF
import Derived.Test.YtmjfggadehkbjaaGreatDoorLwa07
import Derived.Test.YtmjfggadehkbjaaGreatDoorOpen
import Derived.LaidMore
import Derived.Stop.Joined
import Derived.SevenTiedAt
import Derived.Lay
import Derived.LaidOnce
import Derived.JoinedCond
import Derived.Deep.DeepHandedRow
import Derived.PinnedBridge
import Derived.Lib.LaidU8T
namespace Go.Proofs.YtmjfggadehkbjaaGreatDoor
namespace ariths
open Go.ChangeShapes Go.WideShapes Go.ChangeAt Go.RowKit Go.Deep
open Go.ChangeMaps (open_string shut_string)
theorem own:ownKnob Tryz.prog.godebug=none:=by kernel_rfl
theorem laidOut:laidOutB Tryz.prog=true:=by kernel_rfl
abbrev laidList : List (String × DataW Unit) := [("unicode/utf8.acceptRanges", Rows.laid_unicode_utf8_acceptRanges), ("unicode/utf8.first", Rows.laid_unicode_utf8_first)]
theorem accept_eq:(Rows.laid_unicode_utf8_acceptRanges:DataW Unit)=Lib.acceptData:=by kernel_rfl
theorem first_eq:Rows.laid_unicode_utf8_first=Lib.firstData:=Pinned.utf8First_eq
theorem extra:U8Extra Tryz.prog Tryz.lays260_ren:=⟨by kernel_rfl,by kernel_rfl,by kernel_rfl,by kernel_rfl,by kernel_rfl,by kernel_rfl,by kernel_rfl⟩
theorem tabs_of {W:World} (h:laidMetH Tryz.prog laidList W):Lib.Utf8Tabs 1 2 W:=by
 rw [MakeChecks.laidMetH_plain _ _ _ (by kernel_rfl)] at h
 exact utf8Tabs_of_readsT (ρ:=Tryz.lays260_ren) (U8Types.of260 Tryz.lays260) extra (first_eq ▸ Lib.laidMet.reads h (by simp)) (accept_eq ▸ Lib.laidMet.reads h (by simp))
theorem max_of {W:World} (h:W.ShapedOpen Tryz.prog):∃ m:Int,W.cell? ⟨0,0,none⟩=some (.int .i64 m):=Tryz.laysM144.s1_3 W h
set_option maxRecDepth 100000 in
theorem contract (H:Type) (enc:TypeId×Value→H) (W:World) (base:Nat) (args:Array Value) (ds gs:List (DataW H)) (before:List MemPlace)
 (hval:∀ (j:Nat) t v,Tryz.f4.params[j]?=some t→args[j]?=some v→Value.okWide Tryz.prog W .any base t v)
 (hW:DataW.Whole enc Tryz.prog Tryz.f4.params.toList Rows.builtinArithsSpec.vars false W args.toList ds gs before) (hk:Rows.uptoSmall H (ds++gs)=true) (hT:Lib.Utf8Tabs 1 2 W) (hm:∃ m:Int,W.cell? ⟨0,0,none⟩=some (.int .i64 m)) :
 Calls Tryz.prog 4 args W fun e W'=>∃ v,e=.returned v∧Rows.builtinArithsSpec.post enc Tryz.prog Tryz.f4 false true false false W args v W':=by
 have hW':=hW
 obtain ⟨p,q,hA0,hV,rfl,hfz,hnd⟩:=hW
 have hA:DataW.TrodAll enc Tryz.prog W 0 (fun _=>true) true Tryz.f4.params.toList args.toList ds p:=hA0
 rw [Tryz.params4] at hA hval
 obtain ⟨v0,vs0,d0,ds0,p0,q0,hargs,rfl,rfl,h0,r0⟩:=trodAll_cons hA
 obtain ⟨v1,vs1,d1,ds1,p1,q1,rfl,rfl,rfl,h1,r1⟩:=trodAll_cons r0
 obtain ⟨v2,vs2,d2,ds2,p2,q2,rfl,rfl,rfl,h2,r2⟩:=trodAll_cons r1
 obtain ⟨rfl,rfl,rfl⟩:=trodAll_nil r2
 obtain rfl:args=#[v0,v1,v2]:=by cases args;simp_all
 obtain ⟨rfl,rfl⟩:=trodVars_none hV
 obtain ⟨op,rfl,rfl,rfl,hs⟩:=open_string Tryz.underlying9 (hval 0 9 v0 rfl rfl) h0
 obtain ⟨es,rfl,hes⟩:=okWide_struct Tryz.underlying30 (hval 1 30 v1 rfl rfl)
 obtain ⟨fs,rfl,hfs⟩:=okWide_struct Tryz.underlying30 (hval 2 30 v2 rfl rfl)
 have k1:=h1
 have k2:=h2
 have lt1:∀ x∈p1,x.block<W.heap.size:=by obtain ⟨m,hm⟩:=k1;exact DataW.trod_lt m _ _ _ hm
 have lt2:∀ x∈p2,x.block<W.heap.size:=by obtain ⟨m,hm⟩:=k2;exact DataW.trod_lt m _ _ _ hm
 have hb:Rows.uptoBulk d1≤1048576∧Rows.uptoBulk d2≤1048576:=by
  have h:Rows.uptoBulkAll [_,d1,d2]≤1048576:=of_decide_eq_true hk
  simp only [Rows.uptoBulkAll] at h
  omega
 obtain ⟨y,hy⟩:∃ y,ValD.At W W.heap.size 1048576 y es.toList:=by
  obtain ⟨fuel,hf⟩:=h1
  have hf':DataW.trod enc Tryz.prog W 0 (fun _=>true) true fuel 30 es.toList=some (d1,p1):=hf
  exact open_V fuel hf' (.inr hb.1)
 obtain ⟨z,hz⟩:∃ z,ValD.At W W.heap.size 1048576 z fs.toList:=by
  obtain ⟨fuel,hf⟩:=h2
  have hf':DataW.trod enc Tryz.prog W 0 (fun _=>true) true fuel 30 fs.toList=some (d2,p2):=hf
  exact open_V fuel hf' (.inr hb.2)
 clear hA0
 have hl:Calls Tryz.prog 4 #[.string op,.agg es,.agg fs] W (YesB W):=by
  have:=law37a op y z W 1048576 4194304 es.toList fs.toList (by omega) (by omega) (by omega) hT hm hy hz
  rwa [Array.toArray_toList,Array.toArray_toList] at this
 refine hl.mono fun e W' ⟨he,bel⟩=>?_
 subst he
 exact ⟨_,rfl,_,_,_,[],_,[],hW',trodAll_mk1 (shut_bool Tryz.underlying4 _),
  (trodAll_cons_mk (shut_string Tryz.underlying9 hs) (trodAll_cons_mk (Below.trod laidOut (by kernel_rfl) (of_decide_eq_true (by kernel_rfl)) k1 bel lt1) (trodAll_cons_mk (Below.trod laidOut (by kernel_rfl) (of_decide_eq_true (by kernel_rfl)) k2 bel lt2) trodAll_mk0))),rfl,bel.frame _,fun h=>by cases h⟩
def zeroArg:Value:=.agg #[.int .i64 0,.bool false,.bool false,.string .empty,.int .i64 0,.int .i64 0,.int .i64 0,.int .i64 0,.int .i64 0,.string .empty,.slice none 0 0,.slice none 0 0,.slice none 0 0]
def zeroData (H:Type):DataW H:=.agg [.lit (.int .i64 0),.lit (.bool false),.agg [.lit (.bool false),.lit (.string []),.lit (.int .i64 0)],.agg [.lit (.int .i64 0),.lit (.int .i64 0),.lit (.int .i64 0),.lit (.int .i64 0)],.lit (.string []),.nil,.nil,.nil]
theorem reads (os:Os) {H:Type} (enc:TypeId×Value→H):∃ places,DataW.whole enc Tryz.prog ((World.laidAll Tryz.prog os laidList).forCall (fun _ _=>0) ⟨#[],#[.string ByteArray.empty,zeroArg,zeroArg],[]⟩).memory Tryz.f4.params.toList Rows.builtinArithsSpec.vars false #[.string ByteArray.empty,zeroArg,zeroArg].toList 8=some ([.lit (.string []),zeroData H,zeroData H],[],places) :=
 ⟨[],by kernel_rfl⟩
set_option maxRecDepth 100000 in
theorem lifted (os:Os) (started:os.Started) (H:Type) (enc:TypeId×Value→H) (F:Stop.Interp) :
 ReturnsInHanded {} Tryz.checked os 4 .any ((Rows.OpenSpec.upto Rows.builtinArithsSpec).preRow enc Tryz.prog Tryz.f4 Rows.builtinArithsUptoRow.domain false Rows.builtinArithsUptoRow.laid) (((Rows.OpenSpec.upto Rows.builtinArithsSpec).at F).post enc Tryz.prog Tryz.f4 false true false false):=by
 obtain ⟨places,hx⟩:=reads os enc
 refine returnsInHanded_of_row (C:=Tryz.checked) (s:=Rows.OpenSpec.upto Rows.builtinArithsSpec) own started (by kernel_rfl) Tryz.func4
  ⟨World.laidAll Tryz.prog os laidList,fun _ _=>0,⟨#[],#[.string ByteArray.empty,zeroArg,zeroArg],[]⟩,World.laidAll_os _ _ _,World.shaped_of_ZipB (by kernel_rfl) (by kernel_rfl),
   (Input.okWide_of_okWideB (base:=0) (show Input.okWideB Tryz.prog ((World.laidAll Tryz.prog os laidList).forCall (fun _ _=>0) ⟨#[],#[.string ByteArray.empty,zeroArg,zeroArg],[]⟩) 4 ⟨#[],#[.string ByteArray.empty,zeroArg,zeroArg],[]⟩=true by kernel_rfl)).1,
   (Input.okWide_of_okWideB (show Input.okWideB Tryz.prog ((World.laidAll Tryz.prog os laidList).forCall (fun _ _=>0) ⟨#[],#[.string ByteArray.empty,zeroArg,zeroArg],[]⟩) 4 ⟨#[],#[.string ByteArray.empty,zeroArg,zeroArg],[]⟩=true by kernel_rfl)).2,
   OpenSpec.preRow_of_cond 8 hx (by kernel_rfl) (fun k hk=>by cases hk;kernel_rfl) (by kernel_rfl) (by
    show laidMetH Tryz.prog laidList _
    rw [MakeChecks.laidMetH_plain _ _ _ (by kernel_rfl)]
    exact laidMet_laidAll _ (by kernel_rfl) (by kernel_rfl)),by
   simp only [Assume.holds]
   exact ⟨by simp,by simp,fun _=>Modest.zero,by simp,by simp⟩⟩ ?_
 intro W base args ds gs before hval hW _ hcond _ hL hsh _
 exact contract H enc W base args ds gs before hval hW (hcond _ rfl) (tabs_of hL) (max_of hsh)
theorem saidUpto:Rows.BuiltinArithsUptoSaid :=
 OpenClaim.holds_of_cond 4 Tryz.f4 rfl rfl rfl rfl rfl rfl rfl ⟨rfl,rfl,rfl,rfl,rfl⟩ rfl rfl rfl rfl rfl (by kernel_rfl) Tryz.func4 (by kernel_rfl)
  (of_decide_eq_true (by kernel_rfl)) (by unfold Func.isWrapper;first | (rw [if_pos (by decide +kernel)];kernel_rfl) | (rw [if_neg (by decide +kernel)];exact ⟨rfl,rfl⟩))
  (fun os started H enc _ F=>by rw [OpenClaim.pre_eq_preRow];exact lifted os started H enc F)
theorem plain (f : FuncId) (fn : Func) (hf : Tryz.pinned.checked.prog.funcNamed "datakit/datakitlaw37.BuiltinAriths" = some f) (hfn : Tryz.pinned.checked.prog.funcs[f]? = some fn) :
 false=Tryz.pinned.checked.prog.looks []∧∀ (j:Nat) t,fn.params[j]?=some t→Tryz.pinned.checked.prog.wantsStandIn t=false:=by
 obtain rfl : f = 4 := Option.some.inj ((show Tryz.prog.funcNamed "datakit/datakitlaw37.BuiltinAriths" = some 4 by kernel_rfl).symm.trans hf) |>.symm
 obtain rfl:fn=Tryz.f4:=(Option.some.inj (Tryz.func4.symm.trans hfn)).symm
 refine ⟨by kernel_rfl,fun j t ht=>?_⟩
 rw [Tryz.params4] at ht
 have hm:t∈[9,30]:=by simpa using Array.mem_of_getElem? ht
 have hall:([9,30].all fun u=>!Tryz.prog.wantsStandIn u)=true:=by kernel_rfl
 exact (show Tryz.prog.wantsStandIn t=false by simpa using List.all_eq_true.1 hall t hm)
theorem holds:Rows.BuiltinArithsUptoCardSaid :=
 Claim7.holds_tied_plain_at .later [] _ _ _ _ saidUpto (fun _ h=>by cases h) (by kernel_rfl) (fun _ h=>by cases h) builtinArithsUpto_row_tie rfl ⟨rfl,rfl⟩ (by kernel_rfl) rfl plain (by kernel_rfl)
#print axioms holds
end ariths
end Go.Proofs.YtmjfggadehkbjaaGreatDoor
