/- For every value and any two bounds of bulk at most 1048576 (the law's second form): Slice of the program gives what the document specifies, of values that are valid and small (the law BuiltinSlices; a tied card over two tables of the library, one of them pinned). No other conditions. -/
import Derived.Test.YtmbldgcbnkhabaaDoorRows
import Derived.Test.YtmbldgcbnkhabaaDoorCards
import Derived.Test.YtmbldgcbnkhabaaDoorTie
import Derived.Test.YtmbldgcbnkhabaaDoorSli37m
import Derived.Test.YtmbldgcbnkhabaaDoorOpen
import Derived.ProofKit
import Derived.LaidMore
import Derived.OpenShut
import Derived.Stop.Joined
import Derived.SevenTiedAt
import Derived.Lay
import Derived.LaidOnce
import Derived.JoinedCond
import Derived.Deep.DeepHandedRow
import Derived.PinnedBridge
import Derived.Lib.LaidU8T
namespace Go.Proofs.YtmbldgcbnkhabaaDoor
open Go.RowKit

section
variable {w : World} {B N N' : Nat}
theorem ValD.Own.wide {v : ValD} (h : v.Own N) (hN : N ≤ N') : v.Own N' := by
  obtain ⟨h1, h2, h3, h4, h5, h6, h7, h8, h9, h10, h11⟩ := h
  exact ⟨h1, h2, h3, h4, h5, h6, by omega, by omega, by omega, by omega, by omega⟩
mutual
theorem ValD.At.wide (hN : N ≤ N') : ∀ (v : ValD) {cs : List Value}, ValD.At w B N v cs → ValD.At w B N' v cs
  | .mk _ _ _ _ _ _ l f, _, ⟨ya, la, fa, yc, lc, fc, h1, h2, h3, h4, h5⟩ => ⟨ya, la, fa, yc, lc, fc, h1, h2.wide hN, h3, ValsAt.wide hN l h4, FieldsAt.wide hN f h5⟩
theorem ValsAt.wide (hN : N ≤ N') : ∀ (l : List ValD) {a : Option Addr}, ValsAt w B N l a → ValsAt w B N' l a
  | [], _, _ => trivial
  | v :: r, _, ⟨⟨b, o, cs, h1, h2, h3, h4⟩, h5⟩ => ⟨⟨b, o, cs, h1, h2, h3, ValD.At.wide hN v h4⟩, ValsAt.wide hN r h5⟩
theorem FieldsAt.wide (hN : N ≤ N') : ∀ (l : List (ByteArray × ValD)) {a : Option Addr}, FieldsAt w B N l a → FieldsAt w B N' l a
  | [], _, _ => trivial
  | (_, v) :: r, _, ⟨⟨b, o, cs, h1, h2, h0, h3, h4⟩, h5⟩ => ⟨⟨b, o, cs, h1, h2, Nat.le_trans h0 hN, h3, ValD.At.wide hN v h4⟩, FieldsAt.wide hN r h5⟩
end
end
namespace slices
open Go.ChangeShapes Go.WideShapes Go.ChangeAt Go.RowKit Go.Deep

theorem own : ownKnob Tryd.prog.godebug = none := by kernel_rfl
theorem laidOut : laidOutB Tryd.prog = true := by kernel_rfl
abbrev laidList : List (String × DataW Unit) := [("unicode/utf8.acceptRanges", Rows.laid_unicode_utf8_acceptRanges), ("unicode/utf8.first", Rows.laid_unicode_utf8_first)]

theorem accept_eq : (Rows.laid_unicode_utf8_acceptRanges : DataW Unit) = Lib.acceptData := by kernel_rfl
theorem first_eq : Rows.laid_unicode_utf8_first = Lib.firstData := Pinned.utf8First_eq
theorem extra : U8Extra Tryd.prog Tryd.lays260_ren := ⟨by kernel_rfl, by kernel_rfl, by kernel_rfl, by kernel_rfl, by kernel_rfl, by kernel_rfl, by kernel_rfl⟩
theorem tabs_of {W : World} (h : laidMetH Tryd.prog laidList W) : Lib.Utf8Tabs 0 1 W := by
  rw [MakeChecks.laidMetH_plain _ _ _ (by kernel_rfl)] at h
  exact utf8Tabs_of_readsT (ρ := Tryd.lays260_ren) (U8Types.of260 Tryd.lays260) extra (first_eq ▸ Lib.laidMet.reads h (by simp)) (accept_eq ▸ Lib.laidMet.reads h (by simp))
set_option maxRecDepth 100000 in
/-- A slice that came in is no longer than its room. -/
theorem cap_ok {W : World} {base : Nat} {cs : Array Value} (h : Value.okWide Tryd.prog W .any base 30 (.agg cs)) : ∀ x n c, cs[11]? = some (.slice x n c) → n ≤ c := fun x n c hx => by
  simp only [Value.okWide, Tryd.underlying30] at h
  obtain ⟨cs', he, _, ts, hts, _, hc⟩ := h
  injection he with he
  subst he
  have h1 : (Tryd.prog.cellTypes Tryd.prog.depth 30).bind (fun ts => ts[11 % ts.length]?) = some 27 := by kernel_rfl
  rw [hts] at h1
  obtain ⟨u, hu, hk⟩ := hc 11 _ hx
  obtain rfl : 27 = u := Option.some.inj (h1.symm.trans hu)
  simp only [Cell.okWide, Tryd.underlying27, Cell.ok] at hk
  cases x with
  | none =>
    match n, c, hk with
    | 0, 0, _ => omega
  | some a => exact hk.1

set_option maxRecDepth 100000 in
theorem contract (H : Type) (enc : TypeId × Value → H) (W : World) (base : Nat) (args : Array Value) (ds gs : List (DataW H)) (before : List MemPlace)
    (hval : ∀ (j : Nat) t v, Tryd.f4.params[j]? = some t → args[j]? = some v → Value.okWide Tryd.prog W .any base t v)
    (hW : DataW.Whole enc Tryd.prog Tryd.f4.params.toList Rows.builtinSlicesSpec.vars false W args.toList ds gs before) (hk : Rows.uptoSmall H (ds ++ gs) = true) (hT : Lib.Utf8Tabs 0 1 W) :
    Calls Tryd.prog 4 args W fun e W' => ∃ v, e = .returned v ∧ Rows.builtinSlicesSpec.post enc Tryd.prog Tryd.f4 false true false false W args v W' := by
  have hW' := hW
  obtain ⟨p, q, hA0, hV, rfl, hfz, hnd⟩ := hW
  have hA : DataW.TrodAll enc Tryd.prog W 0 (fun _ => true) true Tryd.f4.params.toList args.toList ds p := hA0
  rw [Tryd.params4] at hA hval
  obtain ⟨v0, vs0, d0, ds0, p0, q0, hargs, rfl, rfl, h0, r0⟩ := trodAll_cons hA
  obtain ⟨v1, vs1, d1, ds1, p1, q1, rfl, rfl, rfl, h1, r1⟩ := trodAll_cons r0
  obtain ⟨v2, vs2, d2, ds2, p2, q2, rfl, rfl, rfl, h2, r2⟩ := trodAll_cons r1
  obtain ⟨rfl, rfl, rfl⟩ := trodAll_nil r2
  obtain rfl : args = #[v0, v1, v2] := by cases args; simp_all
  obtain ⟨rfl, rfl⟩ := trodVars_none hV
  obtain ⟨cs, rfl, hcs⟩ := okWide_struct Tryd.underlying30 (hval 0 30 v0 rfl rfl)
  obtain ⟨es, rfl, hes⟩ := okWide_struct Tryd.underlying30 (hval 1 30 v1 rfl rfl)
  obtain ⟨fs, rfl, hfs⟩ := okWide_struct Tryd.underlying30 (hval 2 30 v2 rfl rfl)
  have hcap := cap_ok (hval 0 30 (.agg cs) rfl rfl)
  have k0 := h0
  have k1 := h1
  have k2 := h2
  have lt0 : ∀ x ∈ p0, x.block < W.heap.size := by obtain ⟨m, hm⟩ := k0; exact DataW.trod_lt m _ _ _ hm
  have lt1 : ∀ x ∈ p1, x.block < W.heap.size := by obtain ⟨m, hm⟩ := k1; exact DataW.trod_lt m _ _ _ hm
  have lt2 : ∀ x ∈ p2, x.block < W.heap.size := by obtain ⟨m, hm⟩ := k2; exact DataW.trod_lt m _ _ _ hm
  have hb : Rows.uptoBulk d0 ≤ 1048576 ∧ Rows.uptoBulk d1 ≤ 1048576 ∧ Rows.uptoBulk d2 ≤ 1048576 := by
    have h : Rows.uptoBulkAll [d0, d1, d2] ≤ 1048576 := of_decide_eq_true hk
    simp only [Rows.uptoBulkAll] at h
    omega
  obtain ⟨x, hx⟩ : ∃ x, ValD.At W W.heap.size 1048576 x cs.toList := by
    obtain ⟨fuel, hf⟩ := h0
    have hf' : DataW.trod enc Tryd.prog W 0 (fun _ => true) true fuel 30 cs.toList = some (d0, p0) := hf
    exact open_V fuel hf' (.inr hb.1)
  obtain ⟨y, hy⟩ : ∃ y, ValD.At W W.heap.size 1048576 y es.toList := by
    obtain ⟨fuel, hf⟩ := h1
    have hf' : DataW.trod enc Tryd.prog W 0 (fun _ => true) true fuel 30 es.toList = some (d1, p1) := hf
    exact open_V fuel hf' (.inr hb.2.1)
  obtain ⟨z, hz⟩ : ∃ z, ValD.At W W.heap.size 1048576 z fs.toList := by
    obtain ⟨fuel, hf⟩ := h2
    have hf' : DataW.trod enc Tryd.prog W 0 (fun _ => true) true fuel 30 fs.toList = some (d2, p2) := hf
    exact open_V fuel hf' (.inr hb.2.2)
  clear hA0
  have hl : Calls Tryd.prog 4 #[.agg cs, .agg es, .agg fs] W (YesB W) := by
    have := law37s x y z W 1048576 cs.toList es.toList fs.toList (by omega) hT (fun a n c h => hcap a n c (by rw [← Array.getElem?_toList]; exact h)) hx hy hz
    rwa [Array.toArray_toList, Array.toArray_toList, Array.toArray_toList] at this
  refine hl.mono fun e W' ⟨he, bel⟩ => ?_
  subst he
  exact ⟨_, rfl, _, _, _, [], _, [], hW', trodAll_mk1 (shut_bool Tryd.underlying4 _),
    (trodAll_cons_mk (Below.trod laidOut (by kernel_rfl) (of_decide_eq_true (by kernel_rfl)) k0 bel lt0) (trodAll_cons_mk (Below.trod laidOut (by kernel_rfl) (of_decide_eq_true (by kernel_rfl)) k1 bel lt1) (trodAll_cons_mk (Below.trod laidOut (by kernel_rfl) (of_decide_eq_true (by kernel_rfl)) k2 bel lt2) trodAll_mk0))), rfl, bel.frame _, fun h => by cases h⟩

def zeroArg : Value := .agg #[.int .i64 0, .bool false, .bool false, .string .empty, .int .i64 0, .int .i64 0, .int .i64 0, .int .i64 0, .int .i64 0, .string .empty, .slice none 0 0, .slice none 0 0, .slice none 0 0]
def zeroData (H : Type) : DataW H := .agg [.lit (.int .i64 0), .lit (.bool false), .agg [.lit (.bool false), .lit (.string []), .lit (.int .i64 0)], .agg [.lit (.int .i64 0), .lit (.int .i64 0), .lit (.int .i64 0), .lit (.int .i64 0)], .lit (.string []), .nil, .nil, .nil]
theorem reads (os : Os) {H : Type} (enc : TypeId × Value → H) : ∃ places, DataW.whole enc Tryd.prog ((World.laidAll Tryd.prog os laidList).forCall (fun _ _ => 0) ⟨#[], #[zeroArg, zeroArg, zeroArg], []⟩).memory Tryd.f4.params.toList Rows.builtinSlicesSpec.vars false #[zeroArg, zeroArg, zeroArg].toList 8 = some ([zeroData H, zeroData H, zeroData H], [], places) :=
  ⟨[], by kernel_rfl⟩

set_option maxRecDepth 100000 in
theorem lifted (os : Os) (started : os.Started) (H : Type) (enc : TypeId × Value → H) (F : Stop.Interp) :
    ReturnsInHanded {} Tryd.checked os 4 .any ((Rows.OpenSpec.upto Rows.builtinSlicesSpec).preRow enc Tryd.prog Tryd.f4 Rows.builtinSlicesUptoRow.domain false Rows.builtinSlicesUptoRow.laid) (((Rows.OpenSpec.upto Rows.builtinSlicesSpec).at F).post enc Tryd.prog Tryd.f4 false true false false) := by
  obtain ⟨places, hx⟩ := reads os enc
  refine returnsInHanded_of_row (C := Tryd.checked) (s := Rows.OpenSpec.upto Rows.builtinSlicesSpec) own started (by kernel_rfl) Tryd.func4
    ⟨World.laidAll Tryd.prog os laidList, fun _ _ => 0, ⟨#[], #[zeroArg, zeroArg, zeroArg], []⟩, World.laidAll_os _ _ _, World.shaped_of_ZipB (by kernel_rfl) (by kernel_rfl),
      (Input.okWide_of_okWideB (base := 0) (show Input.okWideB Tryd.prog ((World.laidAll Tryd.prog os laidList).forCall (fun _ _ => 0) ⟨#[], #[zeroArg, zeroArg, zeroArg], []⟩) 4 ⟨#[], #[zeroArg, zeroArg, zeroArg], []⟩ = true by kernel_rfl)).1,
      (Input.okWide_of_okWideB (show Input.okWideB Tryd.prog ((World.laidAll Tryd.prog os laidList).forCall (fun _ _ => 0) ⟨#[], #[zeroArg, zeroArg, zeroArg], []⟩) 4 ⟨#[], #[zeroArg, zeroArg, zeroArg], []⟩ = true by kernel_rfl)).2,
      OpenSpec.preRow_of_cond 8 hx (by kernel_rfl) (fun k hk => by cases hk; kernel_rfl) (by kernel_rfl) (by
        show laidMetH Tryd.prog laidList _
        rw [MakeChecks.laidMetH_plain _ _ _ (by kernel_rfl)]
        exact laidMet_laidAll _ (by kernel_rfl) (by kernel_rfl)), by
      simp only [Assume.holds]
      exact ⟨by simp, by simp, fun _ => Modest.zero, by simp, by simp⟩⟩ ?_
  intro W base args ds gs before hval hW _ hcond _ hL _ _
  exact contract H enc W base args ds gs before hval hW (hcond _ rfl) (tabs_of hL)

theorem saidUpto : Rows.BuiltinSlicesUptoSaid :=
  OpenClaim.holds_of_cond 4 Tryd.f4 rfl rfl rfl rfl rfl rfl rfl ⟨rfl, rfl, rfl, rfl, rfl⟩ rfl rfl rfl rfl rfl (by kernel_rfl) Tryd.func4 (by kernel_rfl)
    (of_decide_eq_true (by kernel_rfl)) (by unfold Func.isWrapper; first | (rw [if_pos (by decide +kernel)]; kernel_rfl) | (rw [if_neg (by decide +kernel)]; exact ⟨rfl, rfl⟩))
    (fun os started H enc _ F => by rw [OpenClaim.pre_eq_preRow]; exact lifted os started H enc F)

theorem plain (f : FuncId) (fn : Func) (hf : Tryd.pinned.checked.prog.funcNamed "datakit/datakitlaw37.BuiltinSlices" = some f) (hfn : Tryd.pinned.checked.prog.funcs[f]? = some fn) :
    false = Tryd.pinned.checked.prog.looks [] ∧ ∀ (j : Nat) t, fn.params[j]? = some t → Tryd.pinned.checked.prog.wantsStandIn t = false := by
  obtain rfl : f = 4 := Option.some.inj ((show Tryd.prog.funcNamed "datakit/datakitlaw37.BuiltinSlices" = some 4 by kernel_rfl).symm.trans hf) |>.symm
  obtain rfl : fn = Tryd.f4 := (Option.some.inj (Tryd.func4.symm.trans hfn)).symm
  refine ⟨by kernel_rfl, fun j t ht => ?_⟩
  rw [Tryd.params4] at ht
  obtain rfl : t = 30 := by simpa using Array.mem_of_getElem? ht
  exact (show Tryd.prog.wantsStandIn 30 = false by kernel_rfl)

theorem holds : Rows.BuiltinSlicesUptoCardSaid :=
  Claim7.holds_tied_plain_at .later [] _ _ _ _ saidUpto (fun _ h => by cases h) (by kernel_rfl) (fun _ h => by cases h) builtinSlicesUpto_row_tie rfl ⟨rfl, rfl⟩ (by kernel_rfl) rfl plain (by kernel_rfl)
#print axioms holds
end slices
end Go.Proofs.YtmbldgcbnkhabaaDoor
