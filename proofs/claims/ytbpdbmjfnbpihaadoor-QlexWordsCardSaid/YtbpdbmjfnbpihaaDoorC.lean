/- For every string, Keyword and Ident of the program answer as those of the reference do, reduce is a keyword and _a1 an identifier (the law QlexWords; a tied card over the table of keywords). No conditions. -/
import Derived.Test.YtbpdbmjfnbpihaaDoorRows
import Derived.Test.YtbpdbmjfnbpihaaDoorCards
import Derived.Test.YtbpdbmjfnbpihaaDoorTie
import Derived.Test.YtbpdbmjfnbpihaaDoorB
import Derived.ProofKit
import Derived.LaidMore
import Derived.OpenShut
import Derived.Stop.Joined
import Derived.SevenTiedAt
namespace Go.Proofs.YtbpdbmjfnbpihaaDoor
open Go.ChangeShapes Go.WideShapes Go.ChangeAt Go.WideMaps Go.WideElems Go.RowKit
open Go.ChangeMaps (open_string shut_string)

theorem own : ownKnob Tryd.prog.godebug = none := by kernel_rfl
theorem gKw : Tryd.prog.globalNamed "datakit/qlex.keywords" = some 0 := by kernel_rfl
theorem tKw : (Tryd.prog.globals[0]?).map (·.type) = some 38 := by kernel_rfl
theorem cells38 : Tryd.prog.cellsOf 38 = 18 := by kernel_rfl
theorem cells9 : Tryd.prog.cellsOf 9 = 1 := by kernel_rfl

/-- The door's own heap meets the condition. -/
theorem door_met (os : Os) (args : Array Value) : laidMetH Tryd.prog [("datakit/qlex.keywords", Rows.laid_datakit_qlex_keywords)] ((World.doorLaid Tryd.prog 400 os).forCall (fun _ _ => 0) ⟨#[], args, []⟩).memory :=
  laidMetH_of_parts3 (fuel := 8) (laidMet_of_run' 8 (by kernel_rfl) (by kernel_rfl)) (by kernel_rfl) (by kernel_rfl)

/-- An array of strings that reads as listed. -/
theorem array_strings {H : Type} {enc : TypeId × Value → H} {P : Program} {w : World} {base : Nat} {spare : Nat → Bool} {held : Bool} {t e : TypeId} {n fuel : Nat} {cs : List Value} {ls : List (List UInt8)} {p : List MemPlace}
    (ht : P.underlying t = some (.array n e)) (he : P.underlying e = some .string) (hc : P.cellsOf e = 1) (hct : P.cellsOf t = n) (h : DataW.trod enc P w base spare held fuel t cs = some (.agg (ls.map fun l => .lit (.string l)), p)) :
    cs = ls.map fun l => Value.string ⟨l.toArray⟩ := by
  obtain ⟨xs, m, _, hx, hlen, hn, hel⟩ := DataW.trod_array ht h
  simp only [Prod.mk.injEq, DataW.agg.injEq] at hx
  have hll : ls.length = n := by
    have := congrArg List.length hx.1
    simpa [hn] using this
  rw [hct] at hlen
  apply List.ext_getElem (by simp [hlen, hll])
  intro i h1 h2
  have hi : i < n := by omega
  have hel' := hel i hi
  rw [hc, Nat.mul_one, List.getElem?_eq_getElem (by omega)] at hel'
  obtain ⟨s, e1, e2, _⟩ := DataW.trod_string he hel'
  have e3 : (List.drop i cs).take 1 = [cs[i]] := by rw [List.drop_eq_getElem_cons h1]; rfl
  rw [e3] at e1
  have e4 : (xs[i]'(by omega)).1 = .lit (.string (ls[i]'(by omega))) := by
    have := congrArg (fun l => l[i]?) hx.1
    simp [List.getElem?_eq_getElem (show i < ls.length by omega), List.getElem?_eq_getElem (show i < xs.length by omega)] at this
    exact this.symm
  rw [e2] at e4
  simp at e4
  simp at e1
  rw [e1, List.getElem_map, ← e4]

theorem of_laid {W : World} (h : laidMetH Tryd.prog [("datakit/qlex.keywords", Rows.laid_datakit_qlex_keywords)] W) : KwLaid W := by
  rw [MakeChecks.laidMetH_plain _ _ _ (by kernel_rfl)] at h
  obtain ⟨ps, ⟨g0, t0, cs0, f0, p0, q0, hg0, ht0, hv0, hd0, _, _⟩, _, _⟩ := h
  obtain rfl := Option.some.inj (gKw.symm.trans hg0)
  obtain rfl := Option.some.inj (tKw.symm.trans ht0)
  have e : cs0.toList = kws.map fun l => Value.string ⟨l.toArray⟩ := array_strings (ls := kws) Tryd.underlying38 Tryd.underlying9 cells9 cells38 hd0
  have e' : cs0 = kwArr := by
    rw [← Array.toList_inj, e]; rfl
  subst e'
  simp only [World.var?, gKw, Option.bind_some] at hv0
  split at hv0
  · rename_i cs T fr hh
    cases hv0
    exact ⟨T, fr, hh⟩
  · cases hv0

set_option maxRecDepth 100000 in
theorem lifted3 (os : Os) (started : os.Started) (H : Type) (enc : TypeId × Value → H) :
    ReturnsInHanded {} Tryd.checked os 3 .any (fun w args => (Rows.qlexWordsSpec.pre enc Tryd.prog Tryd.f3 [] false w args ∧ laidMetH Tryd.prog [("datakit/qlex.keywords", Rows.laid_datakit_qlex_keywords)] w) ∧ sizedMet enc Tryd.prog Tryd.f3 (OpenSpec.ofChange Rows.qlexWordsSpec) false w args)
      (Rows.qlexWordsSpec.post enc Tryd.prog Tryd.f3 false true false false) := by
  refine returnsInHanded_of_change_and (C := Tryd.checked) (X := fun w _ => laidMetH Tryd.prog [("datakit/qlex.keywords", Rows.laid_datakit_qlex_keywords)] w) (fun _ _ _ hh h => h.of_heap hh) own started (by kernel_rfl) Tryd.func3
    (ChangeSpec.witness_shaped (enc := enc) (C := Tryd.checked) (os := os) (X := fun w _ => laidMetH Tryd.prog [("datakit/qlex.keywords", Rows.laid_datakit_qlex_keywords)] w) false (World.doorLaid Tryd.prog 400 os) #[.string ByteArray.empty] 8 rfl (World.shaped_of_RefB (by kernel_rfl) (by kernel_rfl)) (by kernel_rfl) (by kernel_rfl) (by kernel_rfl) (door_met os _)) ?_
  intro W base args ds gs before hval0 hW _ _ hL _
  have hval : ∀ (j : Nat) t v, Tryd.f3.params[j]? = some t → args[j]? = some v → Value.okWide Tryd.prog W .any base t v := hval0
  have hW' := hW
  obtain ⟨p, q, hA0, hV, rfl, hfz, hnd⟩ := hW
  have hA : DataW.TrodAll enc Tryd.prog W 0 (fun _ => true) true Tryd.f3.params.toList args.toList ds p := hA0
  rw [Tryd.params3] at hA hval
  obtain ⟨v0, d0, rfl, rfl, h0⟩ := trodAll_one hA
  obtain ⟨rfl, rfl⟩ := trodVars_none hV
  obtain ⟨s, rfl, rfl, rfl, hs⟩ := open_string Tryd.underlying9 (hval 0 9 v0 rfl rfl) h0
  have hK := of_laid hL
  clear hA0 hval0
  simp only [List.append_nil] at hW'
  refine (law3 s W hs hK).mono fun e W' ⟨he, hw⟩ => ?_
  subst he; subst hw
  exact ⟨_, rfl, post_of_same (pa := []) (pv := []) hW' (fun _ _ _ => trodAll_mk1 (shut_bool Tryd.underlying4 _)) (fun sp _ => trodAll_mk1 (shut_string Tryd.underlying9 hs)) (fun _ _ => rfl) rfl (World.keptBut_refl _ _) (fun _ => rfl) (ok_one (by kernel_rfl) rfl (okWide_bool_mk Tryd.underlying4 _))⟩

theorem qlexWords_said : Rows.QlexWordsSaid :=
  OpenClaim.holds_of_wide 3 Tryd.f3 rfl rfl rfl rfl rfl rfl rfl ⟨rfl, rfl, rfl, rfl, rfl⟩ rfl rfl rfl rfl rfl (by kernel_rfl) Tryd.func3 (by kernel_rfl)
    (of_decide_eq_true (by kernel_rfl)) (by unfold Func.isWrapper; first | (rw [if_pos (by decide +kernel)]; kernel_rfl) | (rw [if_neg (by decide +kernel)]; exact ⟨rfl, rfl⟩))
    (fun os started H enc _ => lifted3 os started H enc)

theorem qlexWords_holds : Rows.QlexWordsCardSaid :=
  Claim7.holds_tied_plain_at .later [] [.data] true (true, "41fe893ad1bbb624679d48fab2f23ba1e94356305febb523f204b24127709f7d") false
    qlexWords_said (fun _ h => by cases h) (by kernel_rfl) (fun _ h => by cases h) qlexWords_row_tie rfl ⟨rfl, rfl⟩ (by kernel_rfl) rfl
    (fun f fn hf hfn => by
      obtain rfl : f = 3 := Option.some.inj ((show Tryd.prog.funcNamed "datakit/datakitlaw35.QlexWords" = some 3 by kernel_rfl).symm.trans hf) |>.symm
      obtain rfl : fn = Tryd.f3 := (Option.some.inj (Tryd.func3.symm.trans hfn)).symm
      exact ⟨by kernel_rfl, fun j t ht => by
        rw [Tryd.params3] at ht
        have hm : t ∈ [9] := by simpa using Array.mem_of_getElem? ht
        have hall : ([9].all fun u => !Tryd.prog.wantsStandIn u) = true := by kernel_rfl
        exact (show Tryd.prog.wantsStandIn t = false by simpa using List.all_eq_true.1 hall t hm)⟩)
    (by kernel_rfl)
#print axioms qlexWords_holds
end Go.Proofs.YtbpdbmjfnbpihaaDoor
