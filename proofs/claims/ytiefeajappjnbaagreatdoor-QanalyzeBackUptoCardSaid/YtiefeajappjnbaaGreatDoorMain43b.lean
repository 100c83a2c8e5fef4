/- For every plan of bulk at most 1048576 (the law's second form): qanalyze.Plan of the program of a plan that the document calls valid is this plan, and is valid; Program of another returns the document's error (plans of less than 300 functions, at most 600 nodes and 100 steps: the law QanalyzeBack; a tied card over five tables, one of them pinned). No other conditions. -/
import Derived.Test.YtiefeajappjnbaaGreatDoorRows
import Derived.Test.YtiefeajappjnbaaGreatDoorCards
import Derived.Test.YtiefeajappjnbaaGreatDoorTie
import Derived.Test.YtiefeajappjnbaaGreatDoorNH
import Derived.Test.YtiefeajappjnbaaGreatDoorHA
import Derived.Test.YtiefeajappjnbaaGreatDoorNI
import Derived.ProofKit
import Derived.LaidMore
import Derived.OpenShut
import Derived.Stop.Joined
import Derived.SevenTiedAt
import Derived.Lay
import Derived.LaidOnce
import Derived.JoinedCond
import Derived.Deep.DeepHandedRow
import Derived.PinnedBridge
import Derived.Lib.LaidU8T
namespace Go.Proofs.YtiefeajappjnbaaGreatDoor
namespace back43
open Go.ChangeShapes Go.WideShapes Go.ChangeAt Go.RowKit Go.Deep
theorem own:ownKnob Tryz.prog.godebug=none:=by kernel_rfl
theorem zO:laidOutB Tryz.prog=true:=by kernel_rfl
abbrev laidList : List (String × DataW Unit) := [("unicode/utf8.acceptRanges", Rows.laid_unicode_utf8_acceptRanges), ("unicode.White_Space", Rows.laid_unicode_White_Space), ("strings.asciiSpace", Rows.laid_strings_asciiSpace), ("datakit/qlex.keywords", Rows.laid_datakit_qlex_keywords), ("unicode/utf8.first", Rows.laid_unicode_utf8_first)]
theorem vr:(Rows.laid_unicode_utf8_acceptRanges:DataW Unit)=Lib.acceptData:=by kernel_rfl
theorem xS:Rows.laid_unicode_utf8_first=Lib.firstData:=Pinned.utf8First_eq
theorem extra:U8Extra Tryz.prog Tryz.lays260_ren:=⟨by kernel_rfl,by kernel_rfl,by kernel_rfl,by kernel_rfl,by kernel_rfl,by kernel_rfl,by kernel_rfl⟩
theorem za {W:World} (h:laidMetH Tryz.prog laidList W):Lib.Utf8Tabs 0 1 W:=by
 rw [MakeChecks.laidMetH_plain _ _ _ (by kernel_rfl)] at h
 exact utf8Tabs_of_readsT (ρ:=Tryz.lays260_ren) (U8Types.of260 Tryz.lays260) extra (xS ▸ Lib.laidMet.reads h (by simp)) (vr ▸ Lib.laidMet.reads h (by simp))
theorem gKw : Tryz.prog.globalNamed "datakit/qlex.keywords" = some 2 := by kernel_rfl
theorem tKw : (Tryz.prog.globals[2]?).map (·.type) = some 207 := by kernel_rfl
theorem gA : Tryz.prog.globalNamed "strings.asciiSpace" = some 4 := by kernel_rfl
theorem tA : (Tryz.prog.globals[4]?).map (·.type) = some 189 := by kernel_rfl
theorem AD:Tryz.prog.cellsOf 207=18:=by kernel_rfl
theorem mT {H:Type} {enc:TypeId×Value→H} {P:Program} {w:World} {base:Nat} {spare:Nat→Bool} {held:Bool} {t e:TypeId} {n fuel:Nat} {cs:List Value} {ls:List (List UInt8)} {p:List MemPlace}
 (ht:P.underlying t=some (.array n e)) (he:P.underlying e=some .string) (hc:P.cellsOf e=1) (hct:P.cellsOf t=n) (h:DataW.trod enc P w base spare held fuel t cs=some (.agg (ls.map fun l=>.lit (.string l)),p)) :
 cs=ls.map fun l=>Value.string ⟨l.toArray⟩:=by
 obtain ⟨xs,m,_,hx,hlen,hn,hel⟩:=DataW.trod_array ht h
 simp only [Prod.mk.injEq,DataW.agg.injEq] at hx
 have hll:ls.length=n:=by
  have:=congrArg List.length hx.1
  simpa [hn] using this
 rw [hct] at hlen
 apply List.ext_getElem (by simp [hlen,hll])
 intro i h1 h2
 have hi:i<n:=by omega
 have hel':=hel i hi
 rw [hc,Nat.mul_one,List.getElem?_eq_getElem (by omega)] at hel'
 obtain ⟨s,e1,e2,_⟩:=DataW.trod_string he hel'
 have e3:(List.drop i cs).take 1=[cs[i]]:=by rw [List.drop_eq_getElem_cons h1];rfl
 rw [e3] at e1
 have e4:(xs[i]'(by omega)).1=.lit (.string (ls[i]'(by omega))):=by
  have:=congrArg (fun l=>l[i]?) hx.1
  simp [List.getElem?_eq_getElem (show i<ls.length by omega),List.getElem?_eq_getElem (show i<xs.length by omega)] at this
  exact this.symm
 rw [e2] at e4
 simp at e4
 simp at e1
 rw [e1,List.getElem_map,← e4]
theorem C7 {W:World} (h:laidMetH Tryz.prog laidList W):oR W:=by
 rw [MakeChecks.laidMetH_plain _ _ _ (by kernel_rfl)] at h
 obtain ⟨g0, t0, cs0, f0, p0, hg0, ht0, hv0, hd0⟩ := Lib.laidMet.reads h (n := "datakit/qlex.keywords") (d := Rows.laid_datakit_qlex_keywords) (by simp)
 obtain rfl:=Option.some.inj (gKw.symm.trans hg0)
 obtain rfl:=Option.some.inj (tKw.symm.trans ht0)
 have e:cs0.toList=kws.map fun l=>Value.string ⟨l.toArray⟩:=mT (ls:=kws) Tryz.underlying207 Tryz.underlying9 gH AD hd0
 have e':cs0=dp:=by
  rw [← Array.toList_inj,e];rfl
 subst e'
 simp only [World.var?,gKw,Option.bind_some] at hv0
 split at hv0
 ·rename_i cs T fr hh
  cases hv0
  exact ⟨T,fr,hh⟩
 ·cases hv0
theorem xX {W:World} (h:laidMetH Tryz.prog laidList W) (hs:W.ShapedOpen Tryz.prog):Env W:=⟨za h,C7 h,Tryz.laysM219.s1_3 W hs⟩
theorem yx:Tryz.prog.cellsOf 189=256:=by kernel_rfl
theorem yw:Tryz.prog.cellsOf 5=1:=by kernel_rfl
theorem CS:(Rows.laid_strings_asciiSpace:DataW Unit)=Lib.tabData .u8 Lib.asciiSpaceTab:=by kernel_rfl
theorem vQ {W:World} (h:laidMetH Tryz.prog laidList W):cI W:=by
 rw [MakeChecks.laidMetH_plain _ _ _ (by kernel_rfl)] at h
 obtain ⟨g, t, cs, fuel, p, hg, hty, hvar, hd⟩ := Lib.laidMet.reads h (n := "strings.asciiSpace") (d := Rows.laid_strings_asciiSpace) (by simp)
 obtain rfl:=Option.some.inj (gA.symm.trans hg)
 obtain rfl:=Option.some.inj (tA.symm.trans hty)
 rw [CS] at hd
 unfold cI Lib.TabIs
 rw [hvar,← Lib.cells_of_tab Tryz.underlying189 Tryz.underlying5 yw yx hd]
theorem zi {W:World} (h:Env W):4≤W.heap.size:=by
 obtain ⟨m,hm⟩:=h.max
 exact j7 hm
set_option maxRecDepth 100000 in
theorem contract (H:Type) (enc:TypeId×Value→H) (W:World) (base:Nat) (args:Array Value) (ds gs:List (DataW H)) (bA:List MemPlace)
 (hval:∀ (j:Nat) t v,Tryz.f6.params[j]?=some t→args[j]?=some v→Value.okWide Tryz.prog W .any base t v)
 (hW:DataW.Whole enc Tryz.prog Tryz.f6.params.toList Rows.qanalyzeBackSpec.vars false W args.toList ds gs bA) (hk:Rows.uptoSmall H (ds++gs)=true) (hE:Env W) (hT:cI W) (h4:4≤W.heap.size) :
 Calls Tryz.prog 6 args W fun e W'=>∃ v,e=.returned v∧Rows.qanalyzeBackSpec.post enc Tryz.prog Tryz.f6 false true false false W args v W':=by
 have hW':=hW
 obtain ⟨p,q,hA0,hV,rfl,hfz,hnd⟩:=hW
 have hA:DataW.TrodAll enc Tryz.prog W 0 (fun _=>true) true Tryz.f6.params.toList args.toList ds p:=hA0
 rw [Tryz.params6] at hA hval
 obtain ⟨v0,vs0,d0,ds0,p0,q0,hargs,rfl,rfl,h0,r0⟩:=trodAll_cons hA
 obtain ⟨rfl,rfl,rfl⟩:=trodAll_nil r0
 obtain rfl:args=#[v0]:=by cases args;simp_all
 obtain ⟨rfl,rfl⟩:=trodVars_none hV
 obtain ⟨cs,rfl,hcs⟩:=okWide_struct Tryz.underlying58 (hval 0 58 v0 rfl rfl)
 have k0:=h0
 have lt0:∀ x∈p0,x.block<W.heap.size:=by obtain ⟨m,hm⟩:=k0;exact DataW.trod_lt m _ _ _ hm
 have hb:Rows.uptoBulk d0≤1048576:=by
  have h:Rows.uptoBulkAll [d0]≤1048576:=of_decide_eq_true hk
  simp only [Rows.uptoBulkAll] at h
  omega
 obtain ⟨d,l,hx,hsc⟩:∃ (d:br) (l:List al),cJ W W.heap.size 1048576 d l cs.toList∧∀ sa sc,cs.toList[1]?=some (.slice sa d.steps.length sc)→d.steps.length≤sc:=by
  obtain ⟨fuel,hf⟩:=h0
  have hf':DataW.trod enc Tryz.prog W 0 (fun _=>true) true fuel 58 cs.toList=some (d0,p0):=hf
  exact wo hf' (.inr hb)
 clear hA0
 have hl:Calls Tryz.prog 6 #[.agg cs] W (Dz W):=by
  have:=Go.Proofs.YtiefeajappjnbaaGreatDoor.back43 d l cs.toList W 1048576 (by omega) (by omega) h4 hE hT hsc hx
  rwa [Array.toArray_toList] at this
 refine hl.mono fun e W' ⟨he,bel⟩=>?_
 subst he
 exact ⟨_,rfl,_,_,_,[],_,[],hW',trodAll_mk1 (shut_bool Tryz.underlying4 _),
  (trodAll_cons_mk (Below.trod zO (by kernel_rfl) (of_decide_eq_true (by kernel_rfl)) k0 bel lt0) trodAll_mk0),rfl,bel.frame _,fun h=>by cases h⟩
def zeroArg:Value:=.agg #[.int .i64 0,.slice none 0 0,.string .empty,.int .i64 0,.string .empty,.int .i64 0,.bool false,.bool false,.string .empty,.int .i64 0,.int .i64 0,.int .i64 0,.int .i64 0,.int .i64 0,.string .empty,.slice none 0 0,.slice none 0 0,.slice none 0 0,.slice none 0 0,.slice none 0 0,.int .i64 0,.string .empty,.int .i64 0,.bool false,.bool false,.string .empty,.int .i64 0,.int .i64 0,.int .i64 0,.int .i64 0,.int .i64 0,.string .empty,.slice none 0 0,.slice none 0 0,.slice none 0 0,.slice none 0 0,.slice none 0 0,.int .i64 0,.string .empty,.int .i64 0,.bool false,.bool false,.string .empty,.int .i64 0,.int .i64 0,.int .i64 0,.int .i64 0,.int .i64 0,.string .empty,.slice none 0 0,.slice none 0 0,.slice none 0 0,.slice none 0 0,.slice none 0 0,.slice none 0 0]
def qV (H:Type):DataW H:=.agg [.lit (.int .i64 0),.lit (.string []),.agg [.lit (.int .i64 0),.lit (.bool false),.agg [.lit (.bool false),.lit (.string []),.lit (.int .i64 0)],.agg [.lit (.int .i64 0),.lit (.int .i64 0),.lit (.int .i64 0),.lit (.int .i64 0)],.lit (.string []),.nil,.nil,.nil],.nil,.nil]
def zeroData (H:Type):DataW H:=.agg [.lit (.int .i64 0),.nil,.lit (.string []),qV H,qV H,qV H,.nil]
theorem reads (os:Os) {H:Type} (enc:TypeId×Value→H):∃ places,DataW.whole enc Tryz.prog ((World.laidAll Tryz.prog os laidList).forCall (fun _ _=>0) ⟨#[],#[zeroArg],[]⟩).memory Tryz.f6.params.toList Rows.qanalyzeBackSpec.vars false #[zeroArg].toList 8=some ([zeroData H],[],places) :=
 ⟨[],by kernel_rfl⟩
set_option maxRecDepth 100000 in
theorem lifted (os:Os) (started:os.Started) (H:Type) (enc:TypeId×Value→H) (F:Stop.Interp) :
 ReturnsInHanded {} Tryz.checked os 6 .any ((Rows.OpenSpec.upto Rows.qanalyzeBackSpec).preRow enc Tryz.prog Tryz.f6 Rows.qanalyzeBackUptoRow.domain false Rows.qanalyzeBackUptoRow.laid) (((Rows.OpenSpec.upto Rows.qanalyzeBackSpec).at F).post enc Tryz.prog Tryz.f6 false true false false):=by
 obtain ⟨places,hx⟩:=reads os enc
 refine returnsInHanded_of_row (C:=Tryz.checked) (s:=Rows.OpenSpec.upto Rows.qanalyzeBackSpec) own started (by kernel_rfl) Tryz.func6
  ⟨World.laidAll Tryz.prog os laidList,fun _ _=>0,⟨#[],#[zeroArg],[]⟩,World.laidAll_os _ _ _,World.shaped_of_ZipB (by kernel_rfl) (by kernel_rfl),
   (Input.okWide_of_okWideB (base:=0) (show Input.okWideB Tryz.prog ((World.laidAll Tryz.prog os laidList).forCall (fun _ _=>0) ⟨#[],#[zeroArg],[]⟩) 6 ⟨#[],#[zeroArg],[]⟩=true by kernel_rfl)).1,
   (Input.okWide_of_okWideB (show Input.okWideB Tryz.prog ((World.laidAll Tryz.prog os laidList).forCall (fun _ _=>0) ⟨#[],#[zeroArg],[]⟩) 6 ⟨#[],#[zeroArg],[]⟩=true by kernel_rfl)).2,
   OpenSpec.preRow_of_cond 8 hx (by kernel_rfl) (fun k hk=>by cases hk;kernel_rfl) (by kernel_rfl) (by
    show laidMetH Tryz.prog laidList _
    rw [MakeChecks.laidMetH_plain _ _ _ (by kernel_rfl)]
    exact laidMet_laidAll _ (by kernel_rfl) (by kernel_rfl)),by
   simp only [Assume.holds]
   exact ⟨by simp,by simp,fun _=>Modest.zero,by simp,by simp⟩⟩ ?_
 intro W base args ds gs bA hval hW _ hcond _ hL hsh _
 exact contract H enc W base args ds gs bA hval hW (hcond _ rfl) (xX hL hsh) (vQ hL) (zi (xX hL hsh))
theorem saidUpto:Rows.QanalyzeBackUptoSaid :=
 OpenClaim.holds_of_cond 6 Tryz.f6 rfl rfl rfl rfl rfl rfl rfl ⟨rfl,rfl,rfl,rfl,rfl⟩ rfl rfl rfl rfl rfl (by kernel_rfl) Tryz.func6 (by kernel_rfl)
  (of_decide_eq_true (by kernel_rfl)) (by unfold Func.isWrapper;first | (rw [if_pos (by decide +kernel)];kernel_rfl) | (rw [if_neg (by decide +kernel)];exact ⟨rfl,rfl⟩))
  (fun os started H enc _ F=>by rw [OpenClaim.pre_eq_preRow];exact lifted os started H enc F)
theorem plain (f : FuncId) (fn : Func) (hf : Tryz.pinned.checked.prog.funcNamed "datakit/datakitlaw43.QanalyzeBack" = some f) (hfn : Tryz.pinned.checked.prog.funcs[f]? = some fn) :
 false=Tryz.pinned.checked.prog.looks []∧∀ (j:Nat) t,fn.params[j]?=some t→Tryz.pinned.checked.prog.wantsStandIn t=false:=by
 obtain rfl : f = 6 := Option.some.inj ((show Tryz.prog.funcNamed "datakit/datakitlaw43.QanalyzeBack" = some 6 by kernel_rfl).symm.trans hf) |>.symm
 obtain rfl:fn=Tryz.f6:=(Option.some.inj (Tryz.func6.symm.trans hfn)).symm
 refine ⟨by kernel_rfl,fun j t ht=>?_⟩
 rw [Tryz.params6] at ht
 obtain rfl:t=58:=by simpa using Array.mem_of_getElem? ht
 exact (show Tryz.prog.wantsStandIn 58=false by kernel_rfl)
theorem holds:Rows.QanalyzeBackUptoCardSaid :=
 Claim7.holds_tied_plain_at .later [] _ _ _ _ saidUpto (fun _ h=>by cases h) (by kernel_rfl) (fun _ h=>by cases h) qanalyzeBackUpto_row_tie rfl ⟨rfl,rfl⟩ (by kernel_rfl) rfl plain (by kernel_rfl)
#print axioms holds
end back43
end Go.Proofs.YtiefeajappjnbaaGreatDoor
