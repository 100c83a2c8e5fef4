/- For every code of bulk at most 1048576 (the law's second form): Check of the program returns the error that the document specifies, of code of at most 400 instructions (the law QcodeChecks; a tied card over four tables of the library, one of them pinned). No other conditions. -/
import Derived.Test.YtnoddigkafldfaaDoorRows
import Derived.Test.YtnoddigkafldfaaDoorCards
import Derived.Test.YtnoddigkafldfaaDoorTie
import Derived.Test.YtnoddigkafldfaaDoorLaw41
import Derived.Test.YtnoddigkafldfaaDoorOpen
import Derived.ProofKit
import Derived.LaidMore
import Derived.OpenShut
import Derived.Stop.Joined
import Derived.SevenTiedAt
import Derived.Lay
import Derived.LaidOnce
import Derived.JoinedCond
import Derived.Deep.DeepHandedRow
import Derived.PinnedBridge
import Derived.Lib.LaidU8T
namespace Go.Proofs.YtnoddigkafldfaaDoor
namespace checks41
open Go.ChangeShapes Go.WideShapes Go.ChangeAt Go.RowKit Go.Deep

instance : Inhabited InsD := ⟨⟨0, 0, 0, ⟨#[]⟩, .mk 0 false ⟨false, ⟨#[]⟩, 0⟩ ⟨0, 0, 0, 0⟩ ⟨#[]⟩ [] [] []⟩⟩
theorem cellsINS : Tryd.prog.cellsOf 40 = 17 := by kernel_rfl
theorem cellsSINS : Tryd.prog.cellsOf 22 = 1 := by kernel_rfl
theorem cellsCODE : Tryd.prog.cellsOf 24 = 2 := by kernel_rfl
section
variable {H : Type} {enc : TypeId × Value → H} {w : World} {base : Nat} {spare : Nat → Bool} {held : Bool}
set_option maxRecDepth 100000 in
theorem open_INS {N fuel : Nat} {cs : List Value} {x : DataW H × List MemPlace} (h : DataW.trod enc Tryd.prog w base spare held fuel 40 cs = some x) (hx : Fits N x.1) : ∃ y : InsD, InsD.At w w.heap.size N y cs := by
  obtain ⟨hlen, n, hn, hf⟩ := struct_parts Tryd.underlying40 h hx
  rw [cellsINS] at hlen
  match cs, hlen with
  | [c0, c1, c2, c3, d0, d1, d2, d3, d4, d5, d6, d7, d8, d9, d10, d11, d12], _ =>
    obtain ⟨y0, h0, f0⟩ := hf 0 (by decide)
    obtain ⟨y1, h1, f1⟩ := hf 1 (by decide)
    obtain ⟨y2, h2, f2⟩ := hf 2 (by decide)
    obtain ⟨y3, h3, f3⟩ := hf 3 (by decide)
    obtain ⟨y4, h4, f4⟩ := hf 4 (by decide)
    simp [cellsI, cellsS, cellsV] at h0 h1 h2 h3 h4
    obtain ⟨k0, e0, i0⟩ := open_I h0 f0
    obtain ⟨k1, e1, i1⟩ := open_I h1 f1
    obtain ⟨k2, e2, i2⟩ := open_I h2 f2
    obtain ⟨s, e3, i3⟩ := open_S h3 f3
    obtain ⟨v, i4⟩ := open_V _ h4 f4
    simp at e0 e1 e2 e3
    subst e0 e1 e2 e3
    exact ⟨⟨k0, k1, k2, s, v⟩, _, rfl, i3, i0, i1, i2, i4⟩
set_option maxRecDepth 100000 in
theorem open_CODE {N fuel : Nat} {cs : List Value} {x : DataW H × List MemPlace} (h : DataW.trod enc Tryd.prog w base spare held fuel 24 cs = some x) (hx : Fits N x.1) :
    ∃ (start : Int) (l : List InsD) (a : Option Addr) (c : Nat), cs = [.int .i64 start, .slice a l.length c] ∧ l.length ≤ N ∧ InssAt w w.heap.size N l a := by
  obtain ⟨hlen, n, hn, hf⟩ := struct_parts Tryd.underlying24 h hx
  rw [cellsCODE] at hlen
  match cs, hlen with
  | [c0, c1], _ =>
    obtain ⟨y0, h0, f0⟩ := hf 0 (by decide)
    obtain ⟨y1, h1, f1⟩ := hf 1 (by decide)
    simp [cellsI, cellsSINS] at h0 h1
    obtain ⟨k, e0, _⟩ := open_I h0 f0
    have L : ∃ la lc l, [c1] = [Value.slice la (List.length l) lc] ∧ l.length ≤ N ∧ InssAt w w.heap.size N l la := by
      obtain ⟨a0, len, cap, e, hN, _, hz | ⟨b, o, m, rfl, hm, hb, hi⟩⟩ := slice_cells Tryd.underlying22 (by rw [cellsINS]; omega) h1 f1
      · exact ⟨a0, cap, [], by rw [e, hz]; rfl, by simp, .inl rfl⟩
      rw [cellsINS] at hi
      obtain ⟨l, hl, hp⟩ := list_of_forall (α := InsD) (n := len) (p := fun i v => ∃ cs, CellsAt w b (o + i * 17) cs ∧ InsD.At w w.heap.size N v cs) (fun i h => by
        obtain ⟨cs, y, _, hc, hy, hf⟩ := hi i h
        obtain ⟨v, hv⟩ := open_INS hy hf
        exact ⟨v, cs, hc, hv⟩)
      exact ⟨_, cap, l, by rw [e, hl], by omega, .inr ⟨b, o, rfl, hb, hp⟩⟩
    obtain ⟨la, lc, l, e1, k1, k2⟩ := L
    simp at e0 e1
    subst e0 e1
    exact ⟨k, l, la, lc, rfl, k1, k2⟩
end

theorem own : ownKnob Tryd.prog.godebug = none := by kernel_rfl
theorem laidOut : laidOutB Tryd.prog = true := by kernel_rfl
abbrev laidList : List (String × DataW Unit) := [("unicode/utf8.acceptRanges", Rows.laid_unicode_utf8_acceptRanges), ("unicode.White_Space", Rows.laid_unicode_White_Space), ("strings.asciiSpace", Rows.laid_strings_asciiSpace), ("unicode/utf8.first", Rows.laid_unicode_utf8_first)]

theorem accept_eq : (Rows.laid_unicode_utf8_acceptRanges : DataW Unit) = Lib.acceptData := by kernel_rfl
theorem first_eq : Rows.laid_unicode_utf8_first = Lib.firstData := Pinned.utf8First_eq
theorem extra : U8Extra Tryd.prog Tryd.lays260_ren := ⟨by kernel_rfl, by kernel_rfl, by kernel_rfl, by kernel_rfl, by kernel_rfl, by kernel_rfl, by kernel_rfl⟩
theorem tabs_of {W : World} (h : laidMetH Tryd.prog laidList W) : Lib.Utf8Tabs 0 1 W := by
  rw [MakeChecks.laidMetH_plain _ _ _ (by kernel_rfl)] at h
  exact utf8Tabs_of_readsT (ρ := Tryd.lays260_ren) (U8Types.of260 Tryd.lays260) extra (first_eq ▸ Lib.laidMet.reads h (by simp)) (accept_eq ▸ Lib.laidMet.reads h (by simp))
theorem gA : Tryd.prog.globalNamed "strings.asciiSpace" = some 2 := by kernel_rfl
theorem tA : (Tryd.prog.globals[2]?).map (·.type) = some 70 := by kernel_rfl
theorem cellsTab : Tryd.prog.cellsOf 70 = 256 := by kernel_rfl
theorem cellsU8' : Tryd.prog.cellsOf 5 = 1 := by kernel_rfl
theorem tabEq : (Rows.laid_strings_asciiSpace : DataW Unit) = Lib.tabData .u8 Lib.asciiSpaceTab := by kernel_rfl
theorem space_of {W : World} (h : laidMetH Tryd.prog laidList W) : TabAt W := by
  rw [MakeChecks.laidMetH_plain _ _ _ (by kernel_rfl)] at h
  obtain ⟨g, t, cs, fuel, p, hg, hty, hvar, hd⟩ := Lib.laidMet.reads h (n := "strings.asciiSpace") (d := Rows.laid_strings_asciiSpace) (by simp)
  obtain rfl := Option.some.inj (gA.symm.trans hg)
  obtain rfl := Option.some.inj (tA.symm.trans hty)
  rw [tabEq] at hd
  unfold TabAt Lib.TabIs
  rw [hvar, ← Lib.cells_of_tab Tryd.underlying70 Tryd.underlying5 cellsU8' cellsTab hd]

set_option maxRecDepth 100000 in
theorem contract (H : Type) (enc : TypeId × Value → H) (W : World) (base : Nat) (args : Array Value) (ds gs : List (DataW H)) (before : List MemPlace)
    (hval : ∀ (j : Nat) t v, Tryd.f3.params[j]? = some t → args[j]? = some v → Value.okWide Tryd.prog W .any base t v)
    (hW : DataW.Whole enc Tryd.prog Tryd.f3.params.toList Rows.qcodeChecksSpec.vars false W args.toList ds gs before) (hk : Rows.uptoSmall H (ds ++ gs) = true) (hT : Lib.Utf8Tabs 0 1 W) (hS : TabAt W) :
    Calls Tryd.prog 3 args W fun e W' => ∃ v, e = .returned v ∧ Rows.qcodeChecksSpec.post enc Tryd.prog Tryd.f3 false true false false W args v W' := by
  have hW' := hW
  obtain ⟨p, q, hA0, hV, rfl, hfz, hnd⟩ := hW
  have hA : DataW.TrodAll enc Tryd.prog W 0 (fun _ => true) true Tryd.f3.params.toList args.toList ds p := hA0
  rw [Tryd.params3] at hA hval
  obtain ⟨v0, vs0, d0, ds0, p0, q0, hargs, rfl, rfl, h0, r0⟩ := trodAll_cons hA
  obtain ⟨rfl, rfl, rfl⟩ := trodAll_nil r0
  obtain rfl : args = #[v0] := by cases args; simp_all
  obtain ⟨rfl, rfl⟩ := trodVars_none hV
  obtain ⟨cs, rfl, hcs⟩ := okWide_struct Tryd.underlying24 (hval 0 24 v0 rfl rfl)
  have k0 := h0
  have lt0 : ∀ x ∈ p0, x.block < W.heap.size := by obtain ⟨m, hm⟩ := k0; exact DataW.trod_lt m _ _ _ hm
  have hb : Rows.uptoBulk d0 ≤ 1048576 := by
    have h : Rows.uptoBulkAll [d0] ≤ 1048576 := of_decide_eq_true hk
    simp only [Rows.uptoBulkAll] at h
    omega
  obtain ⟨start, l, a, c, hcl, hln, hl⟩ : ∃ (start : Int) (l : List InsD) (a : Option Addr) (c : Nat), cs.toList = [.int .i64 start, .slice a l.length c] ∧ l.length ≤ 1048576 ∧ InssAt W W.heap.size 1048576 l a := by
    obtain ⟨fuel, hf⟩ := h0
    have hf' : DataW.trod enc Tryd.prog W 0 (fun _ => true) true fuel 24 cs.toList = some (d0, p0) := hf
    exact open_CODE hf' (.inr hb)
  clear hA0
  have hl : Calls Tryd.prog 3 #[.agg cs] W (YesL W) := by
    have hc2 : cs = #[.int .i64 start, .slice a l.length c] := Array.ext' hcl
    rw [hc2]
    exact law41 start l a c W 1048576 (by omega) (by omega) hT hS hl
  refine hl.mono fun e W' ⟨he, bel⟩ => ?_
  subst he
  exact ⟨_, rfl, _, _, _, [], _, [], hW', trodAll_mk1 (shut_bool Tryd.underlying4 _),
    (trodAll_cons_mk (Below.trod laidOut (by kernel_rfl) (of_decide_eq_true (by kernel_rfl)) k0 bel lt0) trodAll_mk0), rfl, bel.frame _, fun h => by cases h⟩

def zeroArg : Value := .agg #[.int .i64 0, .slice none 0 0]
def zeroData (H : Type) : DataW H := .agg [.lit (.int .i64 0), .nil]
theorem reads (os : Os) {H : Type} (enc : TypeId × Value → H) : ∃ places, DataW.whole enc Tryd.prog ((World.laidAll Tryd.prog os laidList).forCall (fun _ _ => 0) ⟨#[], #[zeroArg], []⟩).memory Tryd.f3.params.toList Rows.qcodeChecksSpec.vars false #[zeroArg].toList 8 = some ([zeroData H], [], places) :=
  ⟨[], by kernel_rfl⟩

set_option maxRecDepth 100000 in
theorem lifted (os : Os) (started : os.Started) (H : Type) (enc : TypeId × Value → H) (F : Stop.Interp) :
    ReturnsInHanded {} Tryd.checked os 3 .any ((Rows.OpenSpec.upto Rows.qcodeChecksSpec).preRow enc Tryd.prog Tryd.f3 Rows.qcodeChecksUptoRow.domain false Rows.qcodeChecksUptoRow.laid) (((Rows.OpenSpec.upto Rows.qcodeChecksSpec).at F).post enc Tryd.prog Tryd.f3 false true false false) := by
  obtain ⟨places, hx⟩ := reads os enc
  refine returnsInHanded_of_row (C := Tryd.checked) (s := Rows.OpenSpec.upto Rows.qcodeChecksSpec) own started (by kernel_rfl) Tryd.func3
    ⟨World.laidAll Tryd.prog os laidList, fun _ _ => 0, ⟨#[], #[zeroArg], []⟩, World.laidAll_os _ _ _, World.shaped_of_ZipB (by kernel_rfl) (by kernel_rfl),
      (Input.okWide_of_okWideB (base := 0) (show Input.okWideB Tryd.prog ((World.laidAll Tryd.prog os laidList).forCall (fun _ _ => 0) ⟨#[], #[zeroArg], []⟩) 3 ⟨#[], #[zeroArg], []⟩ = true by kernel_rfl)).1,
      (Input.okWide_of_okWideB (show Input.okWideB Tryd.prog ((World.laidAll Tryd.prog os laidList).forCall (fun _ _ => 0) ⟨#[], #[zeroArg], []⟩) 3 ⟨#[], #[zeroArg], []⟩ = true by kernel_rfl)).2,
      OpenSpec.preRow_of_cond 8 hx (by kernel_rfl) (fun k hk => by cases hk; kernel_rfl) (by kernel_rfl) (by
        show laidMetH Tryd.prog laidList _
        rw [MakeChecks.laidMetH_plain _ _ _ (by kernel_rfl)]
        exact laidMet_laidAll _ (by kernel_rfl) (by kernel_rfl)), by
      simp only [Assume.holds]
      exact ⟨by simp, by simp, fun _ => Modest.zero, by simp, by simp⟩⟩ ?_
  intro W base args ds gs before hval hW _ hcond _ hL _ _
  exact contract H enc W base args ds gs before hval hW (hcond _ rfl) (tabs_of hL) (space_of hL)

theorem saidUpto : Rows.QcodeChecksUptoSaid :=
  OpenClaim.holds_of_cond 3 Tryd.f3 rfl rfl rfl rfl rfl rfl rfl ⟨rfl, rfl, rfl, rfl, rfl⟩ rfl rfl rfl rfl rfl (by kernel_rfl) Tryd.func3 (by kernel_rfl)
    (of_decide_eq_true (by kernel_rfl)) (by unfold Func.isWrapper; first | (rw [if_pos (by decide +kernel)]; kernel_rfl) | (rw [if_neg (by decide +kernel)]; exact ⟨rfl, rfl⟩))
    (fun os started H enc _ F => by rw [OpenClaim.pre_eq_preRow]; exact lifted os started H enc F)

theorem plain (f : FuncId) (fn : Func) (hf : Tryd.pinned.checked.prog.funcNamed "datakit/datakitlaw41.QcodeChecks" = some f) (hfn : Tryd.pinned.checked.prog.funcs[f]? = some fn) :
    false = Tryd.pinned.checked.prog.looks [] ∧ ∀ (j : Nat) t, fn.params[j]? = some t → Tryd.pinned.checked.prog.wantsStandIn t = false := by
  obtain rfl : f = 3 := Option.some.inj ((show Tryd.prog.funcNamed "datakit/datakitlaw41.QcodeChecks" = some 3 by kernel_rfl).symm.trans hf) |>.symm
  obtain rfl : fn = Tryd.f3 := (Option.some.inj (Tryd.func3.symm.trans hfn)).symm
  refine ⟨by kernel_rfl, fun j t ht => ?_⟩
  rw [Tryd.params3] at ht
  obtain rfl : t = 24 := by simpa using Array.mem_of_getElem? ht
  exact (show Tryd.prog.wantsStandIn 24 = false by kernel_rfl)

theorem holds : Rows.QcodeChecksUptoCardSaid :=
  Claim7.holds_tied_plain_at .later [] _ _ _ _ saidUpto (fun _ h => by cases h) (by kernel_rfl) (fun _ h => by cases h) qcodeChecksUpto_row_tie rfl ⟨rfl, rfl⟩ (by kernel_rfl) rfl plain (by kernel_rfl)
#print axioms holds
end checks41
end Go.Proofs.YtnoddigkafldfaaDoor
