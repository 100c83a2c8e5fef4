/- For every code of bulk at most 1048576 (the law's second form): Text of the program returns the text, and Targets the targets, that the document specifies, of valid code of at most 400 instructions with values of at most 50 nodes (the law QcodeTexts; a tied card over six tables, one of them pinned). No other conditions. -/
import Derived.Test.YtniljgkkcnekgaaGreatDoorRows
import Derived.Test.YtniljgkkcnekgaaGreatDoorCards
import Derived.Test.YtniljgkkcnekgaaGreatDoorTie
import Derived.Test.YtniljgkkcnekgaaGreatDoorProg
import Derived.Test.YtniljgkkcnekgaaGreatDoorGA
import Derived.Test.YtniljgkkcnekgaaGreatDoorGF
import Derived.Test.YtniljgkkcnekgaaGreatDoorIN
import Derived.Test.YtniljgkkcnekgaaGreatDoorWR
import Derived.Test.YtniljgkkcnekgaaGreatDoorNI
import Derived.Test.YtniljgkkcnekgaaGreatDoorTxr41
import Derived.Test.YtniljgkkcnekgaaGreatDoorLW
import Derived.Test.YtniljgkkcnekgaaGreatDoorOpen
import Derived.LaidMore
import Derived.Stop.Joined
import Derived.SevenTiedAt
import Derived.Lay
import Derived.LaidOnce
import Derived.JoinedCond
import Derived.Deep.DeepHandedRow
import Derived.PinnedBridge
import Derived.Lib.LaidU8T
namespace Go.Proofs.YtniljgkkcnekgaaGreatDoor
namespace texts41
open Go.ChangeShapes Go.WideShapes Go.ChangeAt Go.RowKit Go.Deep
instance:Inhabited InsD:=⟨⟨0,0,0,⟨#[]⟩,.mk 0 false ⟨false,⟨#[]⟩,0⟩ ⟨0,0,0,0⟩ ⟨#[]⟩ [] [] []⟩⟩
theorem cellsINS:Tryz.prog.cellsOf 41=17:=by kernel_rfl
theorem cellsSINS:Tryz.prog.cellsOf 22=1:=by kernel_rfl
theorem cellsCODE:Tryz.prog.cellsOf 24=2:=by kernel_rfl
section
variable {H:Type} {enc:TypeId×Value→H} {w:World} {base:Nat} {spare:Nat→Bool} {held:Bool}
set_option maxRecDepth 100000 in
theorem open_INS {N fuel:Nat} {cs:List Value} {x:DataW H×List MemPlace} (h:DataW.trod enc Tryz.prog w base spare held fuel 41 cs=some x) (hx:Fits N x.1):∃ y:InsD,InsD.At w w.heap.size N y cs:=by
 obtain ⟨hlen,n,hn,hf⟩:=struct_parts Tryz.underlying41 h hx
 rw [cellsINS] at hlen
 match cs,hlen with
 | [c0,c1,c2,c3,d0,d1,d2,d3,d4,d5,d6,d7,d8,d9,d10,d11,d12],_ =>
   obtain ⟨y0,h0,f0⟩:=hf 0 (by decide)
   obtain ⟨y1,h1,f1⟩:=hf 1 (by decide)
   obtain ⟨y2,h2,f2⟩:=hf 2 (by decide)
   obtain ⟨y3,h3,f3⟩:=hf 3 (by decide)
   obtain ⟨y4,h4,f4⟩:=hf 4 (by decide)
   simp [cellsI,cellsS,cellsV] at h0 h1 h2 h3 h4
   obtain ⟨k0,e0,i0⟩:=open_I h0 f0
   obtain ⟨k1,e1,i1⟩:=open_I h1 f1
   obtain ⟨k2,e2,i2⟩:=open_I h2 f2
   obtain ⟨s,e3,i3⟩:=open_S h3 f3
   obtain ⟨v,i4⟩:=open_V _ h4 f4
   simp at e0 e1 e2 e3
   subst e0 e1 e2 e3
   exact ⟨⟨k0,k1,k2,s,v⟩,_,rfl,i3,i0,i1,i2,i4⟩
set_option maxRecDepth 100000 in
theorem open_CODE {N fuel:Nat} {cs:List Value} {x:DataW H×List MemPlace} (h:DataW.trod enc Tryz.prog w base spare held fuel 24 cs=some x) (hx:Fits N x.1) :
 ∃ (start:Int) (l:List InsD) (a:Option Addr) (c:Nat),cs=[.int .i64 start,.slice a l.length c]∧l.length≤N∧InssAt w w.heap.size N l a:=by
 obtain ⟨hlen,n,hn,hf⟩:=struct_parts Tryz.underlying24 h hx
 rw [cellsCODE] at hlen
 match cs,hlen with
 | [c0,c1],_ =>
   obtain ⟨y0,h0,f0⟩:=hf 0 (by decide)
   obtain ⟨y1,h1,f1⟩:=hf 1 (by decide)
   simp [cellsI,cellsSINS] at h0 h1
   obtain ⟨k,e0,_⟩:=open_I h0 f0
   have L:∃ la lc l,[c1]=[Value.slice la (List.length l) lc]∧l.length≤N∧InssAt w w.heap.size N l la:=by
    obtain ⟨a0,len,cap,e,hN,_,hz | ⟨b,o,m,rfl,hm,hb,hi⟩⟩:=slice_cells Tryz.underlying22 (by rw [cellsINS];omega) h1 f1
    ·exact ⟨a0,cap,[],by rw [e,hz];rfl,by simp,.inl rfl⟩
    rw [cellsINS] at hi
    obtain ⟨l,hl,hp⟩:=list_of_forall (α:=InsD) (n:=len) (p:=fun i v=>∃ cs,CellsAt w b (o+i * 17) cs∧InsD.At w w.heap.size N v cs) (fun i h=>by
     obtain ⟨cs,y,_,hc,hy,hf⟩:=hi i h
     obtain ⟨v,hv⟩:=open_INS hy hf
     exact ⟨v,cs,hc,hv⟩)
    exact ⟨_,cap,l,by rw [e,hl],by omega,.inr ⟨b,o,rfl,hb,hp⟩⟩
   obtain ⟨la,lc,l,e1,k1,k2⟩:=L
   simp at e0 e1
   subst e0 e1
   exact ⟨k,l,la,lc,rfl,k1,k2⟩
end
theorem own:ownKnob Tryz.prog.godebug=none:=by kernel_rfl
theorem laidOut:laidOutB Tryz.prog=true:=by kernel_rfl
abbrev laidList : List (String × DataW Unit) := [("datakit/datakitref41.words", Rows.laid_datakit_datakitref41_words), ("math/bits.deBruijn32tab", Rows.laid_math_bits_deBruijn32tab), ("math/bits.deBruijn64tab", Rows.laid_math_bits_deBruijn64tab), ("internal/strconv.uint64pow10", Rows.laid_internal_strconv_uint64pow10), ("unicode/utf8.acceptRanges", Rows.laid_unicode_utf8_acceptRanges), ("unicode/utf8.first", Rows.laid_unicode_utf8_first)]
theorem tW:(Tryz.prog.globals[0]?).map (·.type)=some 56:=by kernel_rfl
theorem cellsW:Tryz.prog.cellsOf 56=31:=by kernel_rfl
theorem array_strings {H:Type} {enc:TypeId×Value→H} {P:Program} {w:World} {base:Nat} {spare:Nat→Bool} {held:Bool} {t e:TypeId} {n fuel:Nat} {cs:List Value} {ls:List (List UInt8)} {p:List MemPlace}
 (ht:P.underlying t=some (.array n e)) (he:P.underlying e=some .string) (hc:P.cellsOf e=1) (hct:P.cellsOf t=n) (h:DataW.trod enc P w base spare held fuel t cs=some (.agg (ls.map fun l=>.lit (.string l)),p)) :
 cs=ls.map fun l=>Value.string ⟨l.toArray⟩:=by
 obtain ⟨xs,m,_,hx,hlen,hn,hel⟩:=DataW.trod_array ht h
 simp only [Prod.mk.injEq,DataW.agg.injEq] at hx
 have hll:ls.length=n:=by
  have:=congrArg List.length hx.1
  simpa [hn] using this
 rw [hct] at hlen
 apply List.ext_getElem (by simp [hlen,hll])
 intro i h1 h2
 have hi:i<n:=by omega
 have hel':=hel i hi
 rw [hc,Nat.mul_one,List.getElem?_eq_getElem (by omega)] at hel'
 obtain ⟨s,e1,e2,_⟩:=DataW.trod_string he hel'
 have e3:(List.drop i cs).take 1=[cs[i]]:=by rw [List.drop_eq_getElem_cons h1];rfl
 rw [e3] at e1
 have e4:(xs[i]'(by omega)).1=.lit (.string (ls[i]'(by omega))):=by
  have:=congrArg (fun l=>l[i]?) hx.1
  simp [List.getElem?_eq_getElem (show i<ls.length by omega),List.getElem?_eq_getElem (show i<xs.length by omega)] at this
  exact this.symm
 rw [e2] at e4
 simp at e4
 simp at e1
 rw [e1,List.getElem_map,← e4]
theorem words_of {W:World} (h:laidMetH Tryz.prog laidList W):WordsAt W:=by
 rw [MakeChecks.laidMetH_plain _ _ _ (by kernel_rfl)] at h
 obtain ⟨g0, t0, cs0, f0, p0, hg0, ht0, hv0, hd0⟩ := Lib.laidMet.reads h (n := "datakit/datakitref41.words") (d := Rows.laid_datakit_datakitref41_words) (by simp)
 obtain rfl:=Option.some.inj (gWords.symm.trans hg0)
 obtain rfl:=Option.some.inj (tW.symm.trans ht0)
 have e:cs0.toList=wordsL.map fun l=>Value.string ⟨l.toArray⟩:=array_strings (ls:=wordsL) Tryz.underlying56 Tryz.underlying9 cellsS cellsW hd0
 have e':cs0=(wordsL.map fun l=>Value.string ⟨l.toArray⟩).toArray:=by
  rw [← Array.toList_inj,e]
 unfold WordsAt
 rw [hv0,e']
theorem gP : Tryz.prog.globalNamed "internal/strconv.uint64pow10" = some 1 := by kernel_rfl
theorem tP:(Tryz.prog.globals[1]?).map (·.type)=some 133:=by kernel_rfl
theorem cellsP:Tryz.prog.cellsOf 133=20:=by kernel_rfl
theorem cellsU64:Tryz.prog.cellsOf 90=1:=by kernel_rfl
theorem powEq:(Rows.laid_internal_strconv_uint64pow10:DataW Unit)=Lib.tabData .u64 Lib.pow10Tab:=by kernel_rfl
theorem pow_of {W:World} (h:laidMetH Tryz.prog laidList W):PowAt W:=by
 rw [MakeChecks.laidMetH_plain _ _ _ (by kernel_rfl)] at h
 obtain ⟨g, t, cs, fuel, p, hg, hty, hvar, hd⟩ := Lib.laidMet.reads h (n := "internal/strconv.uint64pow10") (d := Rows.laid_internal_strconv_uint64pow10) (by simp)
 obtain rfl:=Option.some.inj (gP.symm.trans hg)
 obtain rfl:=Option.some.inj (tP.symm.trans hty)
 rw [powEq] at hd
 unfold PowAt Lib.TabIs
 rw [hvar,← Lib.cells_of_tab Tryz.underlying133 Tryz.underlying90 cellsU64 cellsP hd]
set_option maxRecDepth 100000 in
theorem contract (H:Type) (enc:TypeId×Value→H) (W:World) (base:Nat) (args:Array Value) (ds gs:List (DataW H)) (before:List MemPlace)
 (hval:∀ (j:Nat) t v,Tryz.f3.params[j]?=some t→args[j]?=some v→Value.okWide Tryz.prog W .any base t v)
 (hW:DataW.Whole enc Tryz.prog Tryz.f3.params.toList Rows.qcodeTextsSpec.vars false W args.toList ds gs before) (hk:Rows.uptoSmall H (ds++gs)=true) (hT:PowAt W) (hS:WordsAt W) :
 Calls Tryz.prog 3 args W fun e W'=>∃ v,e=.returned v∧Rows.qcodeTextsSpec.post enc Tryz.prog Tryz.f3 false true false false W args v W':=by
 have hW':=hW
 obtain ⟨p,q,hA0,hV,rfl,hfz,hnd⟩:=hW
 have hA:DataW.TrodAll enc Tryz.prog W 0 (fun _=>true) true Tryz.f3.params.toList args.toList ds p:=hA0
 rw [Tryz.params3] at hA hval
 obtain ⟨v0,vs0,d0,ds0,p0,q0,hargs,rfl,rfl,h0,r0⟩:=trodAll_cons hA
 obtain ⟨rfl,rfl,rfl⟩:=trodAll_nil r0
 obtain rfl:args=#[v0]:=by cases args;simp_all
 obtain ⟨rfl,rfl⟩:=trodVars_none hV
 obtain ⟨cs,rfl,hcs⟩:=okWide_struct Tryz.underlying24 (hval 0 24 v0 rfl rfl)
 have k0:=h0
 have lt0:∀ x∈p0,x.block<W.heap.size:=by obtain ⟨m,hm⟩:=k0;exact DataW.trod_lt m _ _ _ hm
 have hb:Rows.uptoBulk d0≤1048576:=by
  have h:Rows.uptoBulkAll [d0]≤1048576:=of_decide_eq_true hk
  simp only [Rows.uptoBulkAll] at h
  omega
 obtain ⟨start,l,a,c,hcl,hln,hl⟩:∃ (start:Int) (l:List InsD) (a:Option Addr) (c:Nat),cs.toList=[.int .i64 start,.slice a l.length c]∧l.length≤1048576∧InssAt W W.heap.size 1048576 l a:=by
  obtain ⟨fuel,hf⟩:=h0
  have hf':DataW.trod enc Tryz.prog W 0 (fun _=>true) true fuel 24 cs.toList=some (d0,p0):=hf
  exact open_CODE hf' (.inr hb)
 clear hA0
 have hl:Calls Tryz.prog 3 #[.agg cs] W (Yes41 W):=by
  have hc2:cs=#[.int .i64 start,.slice a l.length c]:=Array.ext' hcl
  rw [hc2]
  exact law41t start l a c W 1048576 (by omega) (by omega) hT hS hl
 refine hl.mono fun e W' ⟨he,bel⟩=>?_
 subst he
 exact ⟨_,rfl,_,_,_,[],_,[],hW',trodAll_mk1 (shut_bool Tryz.underlying4 _),
  (trodAll_cons_mk (Below.trod laidOut (by kernel_rfl) (of_decide_eq_true (by kernel_rfl)) k0 bel lt0) trodAll_mk0),rfl,bel.frame _,fun h=>by cases h⟩
def zeroArg:Value:=.agg #[.int .i64 0,.slice none 0 0]
def zeroData (H:Type):DataW H:=.agg [.lit (.int .i64 0),.nil]
theorem reads (os:Os) {H:Type} (enc:TypeId×Value→H):∃ places,DataW.whole enc Tryz.prog ((World.laidAll Tryz.prog os laidList).forCall (fun _ _=>0) ⟨#[],#[zeroArg],[]⟩).memory Tryz.f3.params.toList Rows.qcodeTextsSpec.vars false #[zeroArg].toList 8=some ([zeroData H],[],places) :=
 ⟨[],by kernel_rfl⟩
set_option maxRecDepth 100000 in
theorem lifted (os:Os) (started:os.Started) (H:Type) (enc:TypeId×Value→H) (F:Stop.Interp) :
 ReturnsInHanded {} Tryz.checked os 3 .any ((Rows.OpenSpec.upto Rows.qcodeTextsSpec).preRow enc Tryz.prog Tryz.f3 Rows.qcodeTextsUptoRow.domain false Rows.qcodeTextsUptoRow.laid) (((Rows.OpenSpec.upto Rows.qcodeTextsSpec).at F).post enc Tryz.prog Tryz.f3 false true false false):=by
 obtain ⟨places,hx⟩:=reads os enc
 refine returnsInHanded_of_row (C:=Tryz.checked) (s:=Rows.OpenSpec.upto Rows.qcodeTextsSpec) own started (by kernel_rfl) Tryz.func3
  ⟨World.laidAll Tryz.prog os laidList,fun _ _=>0,⟨#[],#[zeroArg],[]⟩,World.laidAll_os _ _ _,World.shaped_of_ZipB (by kernel_rfl) (by kernel_rfl),
   (Input.okWide_of_okWideB (base:=0) (show Input.okWideB Tryz.prog ((World.laidAll Tryz.prog os laidList).forCall (fun _ _=>0) ⟨#[],#[zeroArg],[]⟩) 3 ⟨#[],#[zeroArg],[]⟩=true by kernel_rfl)).1,
   (Input.okWide_of_okWideB (show Input.okWideB Tryz.prog ((World.laidAll Tryz.prog os laidList).forCall (fun _ _=>0) ⟨#[],#[zeroArg],[]⟩) 3 ⟨#[],#[zeroArg],[]⟩=true by kernel_rfl)).2,
   OpenSpec.preRow_of_cond 8 hx (by kernel_rfl) (fun k hk=>by cases hk;kernel_rfl) (by kernel_rfl) (by
    show laidMetH Tryz.prog laidList _
    rw [MakeChecks.laidMetH_plain _ _ _ (by kernel_rfl)]
    exact laidMet_laidAll _ (by kernel_rfl) (by kernel_rfl)),by
   simp only [Assume.holds]
   exact ⟨by simp,by simp,fun _=>Modest.zero,by simp,by simp⟩⟩ ?_
 intro W base args ds gs before hval hW _ hcond _ hL _ _
 exact contract H enc W base args ds gs before hval hW (hcond _ rfl) (pow_of hL) (words_of hL)
theorem saidUpto:Rows.QcodeTextsUptoSaid :=
 OpenClaim.holds_of_cond 3 Tryz.f3 rfl rfl rfl rfl rfl rfl rfl ⟨rfl,rfl,rfl,rfl,rfl⟩ rfl rfl rfl rfl rfl (by kernel_rfl) Tryz.func3 (by kernel_rfl)
  (of_decide_eq_true (by kernel_rfl)) (by unfold Func.isWrapper;first | (rw [if_pos (by decide +kernel)];kernel_rfl) | (rw [if_neg (by decide +kernel)];exact ⟨rfl,rfl⟩))
  (fun os started H enc _ F=>by rw [OpenClaim.pre_eq_preRow];exact lifted os started H enc F)
theorem plain (f : FuncId) (fn : Func) (hf : Tryz.pinned.checked.prog.funcNamed "datakit/datakitlaw41.QcodeTexts" = some f) (hfn : Tryz.pinned.checked.prog.funcs[f]? = some fn) :
 false=Tryz.pinned.checked.prog.looks []∧∀ (j:Nat) t,fn.params[j]?=some t→Tryz.pinned.checked.prog.wantsStandIn t=false:=by
 obtain rfl : f = 3 := Option.some.inj ((show Tryz.prog.funcNamed "datakit/datakitlaw41.QcodeTexts" = some 3 by kernel_rfl).symm.trans hf) |>.symm
 obtain rfl:fn=Tryz.f3:=(Option.some.inj (Tryz.func3.symm.trans hfn)).symm
 refine ⟨by kernel_rfl,fun j t ht=>?_⟩
 rw [Tryz.params3] at ht
 obtain rfl:t=24:=by simpa using Array.mem_of_getElem? ht
 exact (show Tryz.prog.wantsStandIn 24=false by kernel_rfl)
theorem holds:Rows.QcodeTextsUptoCardSaid :=
 Claim7.holds_tied_plain_at .later [] _ _ _ _ saidUpto (fun _ h=>by cases h) (by kernel_rfl) (fun _ h=>by cases h) qcodeTextsUpto_row_tie rfl ⟨rfl,rfl⟩ (by kernel_rfl) rfl plain (by kernel_rfl)
#print axioms holds
end texts41
end Go.Proofs.YtniljgkkcnekgaaGreatDoor
