/- For every list of modules of bulk at most 1048576 (the law's second form): Order of the program returns the order of the modules, or the error, that the document specifies, of at most 20 modules of at most 400 nodes each (the law ModuleOrders; a tied card over three tables, one of them pinned). No other conditions. -/
import Derived.Test.YtiefeajappjnbaaGreatDoorRows
import Derived.Test.YtiefeajappjnbaaGreatDoorCards
import Derived.Test.YtiefeajappjnbaaGreatDoorTie
import Derived.Test.YtiefeajappjnbaaGreatDoorLwo38
import Derived.Test.YtiefeajappjnbaaGreatDoorHA
import Derived.Test.YtiefeajappjnbaaGreatDoorOpo38
import Derived.ProofKit
import Derived.LaidMore
import Derived.OpenShut
import Derived.Stop.Joined
import Derived.SevenTiedAt
import Derived.Lay
import Derived.LaidOnce
import Derived.JoinedCond
import Derived.Deep.DeepHandedRow
import Derived.PinnedBridge
import Derived.Lib.LaidU8T
namespace Go.Proofs.YtiefeajappjnbaaGreatDoor
namespace orders38
open Go.ChangeShapes Go.WideShapes Go.ChangeAt Go.RowKit Go.Deep
theorem own:ownKnob Tryz.prog.godebug=none:=by kernel_rfl
theorem laidOut:laidOutB Tryz.prog=true:=by kernel_rfl
abbrev laidList : List (String × DataW Unit) := [("unicode/utf8.acceptRanges", Rows.laid_unicode_utf8_acceptRanges), ("datakit/qlex.keywords", Rows.laid_datakit_qlex_keywords), ("unicode/utf8.first", Rows.laid_unicode_utf8_first)]
theorem accept_eq:(Rows.laid_unicode_utf8_acceptRanges:DataW Unit)=Lib.acceptData:=by kernel_rfl
theorem first_eq:Rows.laid_unicode_utf8_first=Lib.firstData:=Pinned.utf8First_eq
theorem extra:U8Extra Tryz.prog Tryz.lays260_ren:=⟨by kernel_rfl,by kernel_rfl,by kernel_rfl,by kernel_rfl,by kernel_rfl,by kernel_rfl,by kernel_rfl⟩
theorem tabs_of {W:World} (h:laidMetH Tryz.prog laidList W):Lib.Utf8Tabs 0 1 W:=by
 rw [MakeChecks.laidMetH_plain _ _ _ (by kernel_rfl)] at h
 exact utf8Tabs_of_readsT (ρ:=Tryz.lays260_ren) (U8Types.of260 Tryz.lays260) extra (first_eq ▸ Lib.laidMet.reads h (by simp)) (accept_eq ▸ Lib.laidMet.reads h (by simp))
theorem gKw : Tryz.prog.globalNamed "datakit/qlex.keywords" = some 2 := by kernel_rfl
theorem tKw:(Tryz.prog.globals[2]?).map (·.type)=some 207:=by kernel_rfl
theorem cellsKw:Tryz.prog.cellsOf 207=18:=by kernel_rfl
theorem array_strings {H:Type} {enc:TypeId×Value→H} {P:Program} {w:World} {base:Nat} {spare:Nat→Bool} {held:Bool} {t e:TypeId} {n fuel:Nat} {cs:List Value} {ls:List (List UInt8)} {p:List MemPlace}
 (ht:P.underlying t=some (.array n e)) (he:P.underlying e=some .string) (hc:P.cellsOf e=1) (hct:P.cellsOf t=n) (h:DataW.trod enc P w base spare held fuel t cs=some (.agg (ls.map fun l=>.lit (.string l)),p)) :
 cs=ls.map fun l=>Value.string ⟨l.toArray⟩:=by
 obtain ⟨xs,m,_,hx,hlen,hn,hel⟩:=DataW.trod_array ht h
 simp only [Prod.mk.injEq,DataW.agg.injEq] at hx
 have hll:ls.length=n:=by
  have:=congrArg List.length hx.1
  simpa [hn] using this
 rw [hct] at hlen
 apply List.ext_getElem (by simp [hlen,hll])
 intro i h1 h2
 have hi:i<n:=by omega
 have hel':=hel i hi
 rw [hc,Nat.mul_one,List.getElem?_eq_getElem (by omega)] at hel'
 obtain ⟨s,e1,e2,_⟩:=DataW.trod_string he hel'
 have e3:(List.drop i cs).take 1=[cs[i]]:=by rw [List.drop_eq_getElem_cons h1];rfl
 rw [e3] at e1
 have e4:(xs[i]'(by omega)).1=.lit (.string (ls[i]'(by omega))):=by
  have:=congrArg (fun l=>l[i]?) hx.1
  simp [List.getElem?_eq_getElem (show i<ls.length by omega),List.getElem?_eq_getElem (show i<xs.length by omega)] at this
  exact this.symm
 rw [e2] at e4
 simp at e4
 simp at e1
 rw [e1,List.getElem_map,← e4]
theorem kw_of {W:World} (h:laidMetH Tryz.prog laidList W):KwLaid W:=by
 rw [MakeChecks.laidMetH_plain _ _ _ (by kernel_rfl)] at h
 obtain ⟨g0, t0, cs0, f0, p0, hg0, ht0, hv0, hd0⟩ := Lib.laidMet.reads h (n := "datakit/qlex.keywords") (d := Rows.laid_datakit_qlex_keywords) (by simp)
 obtain rfl:=Option.some.inj (gKw.symm.trans hg0)
 obtain rfl:=Option.some.inj (tKw.symm.trans ht0)
 have e:cs0.toList=kws.map fun l=>Value.string ⟨l.toArray⟩:=array_strings (ls:=kws) Tryz.underlying207 Tryz.underlying9 cellsS cellsKw hd0
 have e':cs0=kwArr:=by
  rw [← Array.toList_inj,e];rfl
 subst e'
 simp only [World.var?,gKw,Option.bind_some] at hv0
 split at hv0
 ·rename_i cs T fr hh
  cases hv0
  exact ⟨T,fr,hh⟩
 ·cases hv0
theorem env_of {W:World} (h:laidMetH Tryz.prog laidList W) (hs:W.ShapedOpen Tryz.prog):Env W:=⟨tabs_of h,kw_of h,Tryz.laysM219.s1_3 W hs⟩
theorem size_of {W:World} (h:Env W):4≤W.heap.size:=by
 obtain ⟨m,hm⟩:=h.max
 exact cell_lt hm
set_option maxRecDepth 100000 in
theorem contract (H:Type) (enc:TypeId×Value→H) (W:World) (base:Nat) (args:Array Value) (ds gs:List (DataW H)) (before:List MemPlace)
 (hval:∀ (j:Nat) t v,Tryz.f5.params[j]?=some t→args[j]?=some v→Value.okWide Tryz.prog W .any base t v)
 (hW:DataW.Whole enc Tryz.prog Tryz.f5.params.toList Rows.moduleOrdersSpec.vars false W args.toList ds gs before) (hk:Rows.uptoSmall H (ds++gs)=true) (hE:Env W) :
 Calls Tryz.prog 5 args W fun e W'=>∃ v,e=.returned v∧Rows.moduleOrdersSpec.post enc Tryz.prog Tryz.f5 false true false false W args v W':=by
 have hW':=hW
 obtain ⟨p,q,hA0,hV,rfl,hfz,hnd⟩:=hW
 have hA:DataW.TrodAll enc Tryz.prog W 0 (fun _=>true) true Tryz.f5.params.toList args.toList ds p:=hA0
 rw [Tryz.params5] at hA hval
 obtain ⟨v0,vs0,d0,ds0,p0,q0,hargs,rfl,rfl,h0,r0⟩:=trodAll_cons hA
 obtain ⟨rfl,rfl,rfl⟩:=trodAll_nil r0
 obtain rfl:args=#[v0]:=by cases args;simp_all
 obtain ⟨rfl,rfl⟩:=trodVars_none hV
 obtain ⟨va,vn,vc,rfl⟩:=okWide_slice Tryz.underlying48 (hval 0 48 v0 rfl rfl)
 have k0:=h0
 have lt0:∀ x∈p0,x.block<W.heap.size:=by obtain ⟨m,hm⟩:=k0;exact DataW.trod_lt m _ _ _ hm
 have hb:Rows.uptoBulk d0≤1048576:=by
  have h:Rows.uptoBulkAll [d0]≤1048576:=of_decide_eq_true hk
  simp only [Rows.uptoBulkAll] at h
  omega
 obtain ⟨l,hln,hx⟩:∃ l,vn=List.length l∧ModsAt W W.heap.size 1048576 l va:=by
  obtain ⟨fuel,hf⟩:=h0
  have hf':DataW.trod enc Tryz.prog W 0 (fun _=>true) true fuel 48 [.slice va vn vc]=some (d0,p0):=hf
  obtain ⟨a,c,l,e,hl⟩:=open_SMOD hf' (.inr hb)
  cases e
  exact ⟨l,rfl,hl⟩
 clear hA0
 subst hln
 have hl:Calls Tryz.prog 5 #[.slice va l.length vc] W (YesO W):=lawO l va vc W 1048576 (by omega) (by omega) (size_of hE) hE hx
 refine hl.mono fun e W' ⟨he,bel⟩=>?_
 subst he
 exact ⟨_,rfl,_,_,_,[],_,[],hW',trodAll_mk1 (shut_bool Tryz.underlying4 _),
  (trodAll_cons_mk (Below.trod laidOut (by kernel_rfl) (of_decide_eq_true (by kernel_rfl)) k0 bel lt0) trodAll_mk0),rfl,bel.frame _,fun h=>by cases h⟩
def zeroArg:Value:=.slice none 0 0
def zeroData (H:Type):DataW H:=.nil
theorem reads (os:Os) {H:Type} (enc:TypeId×Value→H):∃ places,DataW.whole enc Tryz.prog ((World.laidAll Tryz.prog os laidList).forCall (fun _ _=>0) ⟨#[],#[zeroArg],[]⟩).memory Tryz.f5.params.toList Rows.moduleOrdersSpec.vars false #[zeroArg].toList 8=some ([zeroData H],[],places) :=
 ⟨[],by kernel_rfl⟩
set_option maxRecDepth 100000 in
theorem lifted (os:Os) (started:os.Started) (H:Type) (enc:TypeId×Value→H) (F:Stop.Interp) :
 ReturnsInHanded {} Tryz.checked os 5 .any ((Rows.OpenSpec.upto Rows.moduleOrdersSpec).preRow enc Tryz.prog Tryz.f5 Rows.moduleOrdersUptoRow.domain false Rows.moduleOrdersUptoRow.laid) (((Rows.OpenSpec.upto Rows.moduleOrdersSpec).at F).post enc Tryz.prog Tryz.f5 false true false false):=by
 obtain ⟨places,hx⟩:=reads os enc
 refine returnsInHanded_of_row (C:=Tryz.checked) (s:=Rows.OpenSpec.upto Rows.moduleOrdersSpec) own started (by kernel_rfl) Tryz.func5
  ⟨World.laidAll Tryz.prog os laidList,fun _ _=>0,⟨#[],#[zeroArg],[]⟩,World.laidAll_os _ _ _,World.shaped_of_ZipB (by kernel_rfl) (by kernel_rfl),
   (Input.okWide_of_okWideB (base:=0) (show Input.okWideB Tryz.prog ((World.laidAll Tryz.prog os laidList).forCall (fun _ _=>0) ⟨#[],#[zeroArg],[]⟩) 5 ⟨#[],#[zeroArg],[]⟩=true by kernel_rfl)).1,
   (Input.okWide_of_okWideB (show Input.okWideB Tryz.prog ((World.laidAll Tryz.prog os laidList).forCall (fun _ _=>0) ⟨#[],#[zeroArg],[]⟩) 5 ⟨#[],#[zeroArg],[]⟩=true by kernel_rfl)).2,
   OpenSpec.preRow_of_cond 8 hx (by kernel_rfl) (fun k hk=>by cases hk;kernel_rfl) (by kernel_rfl) (by
    show laidMetH Tryz.prog laidList _
    rw [MakeChecks.laidMetH_plain _ _ _ (by kernel_rfl)]
    exact laidMet_laidAll _ (by kernel_rfl) (by kernel_rfl)),by
   simp only [Assume.holds]
   exact ⟨by simp,by simp,fun _=>Modest.zero,by simp,by simp⟩⟩ ?_
 intro W base args ds gs before hval hW _ hcond _ hL hsh _
 exact contract H enc W base args ds gs before hval hW (hcond _ rfl) (env_of hL hsh)
theorem saidUpto:Rows.ModuleOrdersUptoSaid :=
 OpenClaim.holds_of_cond 5 Tryz.f5 rfl rfl rfl rfl rfl rfl rfl ⟨rfl,rfl,rfl,rfl,rfl⟩ rfl rfl rfl rfl rfl (by kernel_rfl) Tryz.func5 (by kernel_rfl)
  (of_decide_eq_true (by kernel_rfl)) (by unfold Func.isWrapper;first | (rw [if_pos (by decide +kernel)];kernel_rfl) | (rw [if_neg (by decide +kernel)];exact ⟨rfl,rfl⟩))
  (fun os started H enc _ F=>by rw [OpenClaim.pre_eq_preRow];exact lifted os started H enc F)
theorem plain (f : FuncId) (fn : Func) (hf : Tryz.pinned.checked.prog.funcNamed "datakit/datakitlaw38.ModuleOrders" = some f) (hfn : Tryz.pinned.checked.prog.funcs[f]? = some fn) :
 false=Tryz.pinned.checked.prog.looks []∧∀ (j:Nat) t,fn.params[j]?=some t→Tryz.pinned.checked.prog.wantsStandIn t=false:=by
 obtain rfl : f = 5 := Option.some.inj ((show Tryz.prog.funcNamed "datakit/datakitlaw38.ModuleOrders" = some 5 by kernel_rfl).symm.trans hf) |>.symm
 obtain rfl:fn=Tryz.f5:=(Option.some.inj (Tryz.func5.symm.trans hfn)).symm
 refine ⟨by kernel_rfl,fun j t ht=>?_⟩
 rw [Tryz.params5] at ht
 obtain rfl:t=48:=by simpa using Array.mem_of_getElem? ht
 exact (show Tryz.prog.wantsStandIn 48=false by kernel_rfl)
theorem holds:Rows.ModuleOrdersUptoCardSaid :=
 Claim7.holds_tied_plain_at .later [] _ _ _ _ saidUpto (fun _ h=>by cases h) (by kernel_rfl) (fun _ h=>by cases h) moduleOrdersUpto_row_tie rfl ⟨rfl,rfl⟩ (by kernel_rfl) rfl plain (by kernel_rfl)
#print axioms holds
end orders38
end Go.Proofs.YtiefeajappjnbaaGreatDoor
