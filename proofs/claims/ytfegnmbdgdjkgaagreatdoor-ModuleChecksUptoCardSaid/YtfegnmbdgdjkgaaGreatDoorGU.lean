/- The law's 'small' (datakitlaw38.small): if it says yes, no node has more arguments than 65536. -/
import Derived.Test.YtfegnmbdgdjkgaaGreatDoorSiz36
import Derived.Test.YtfegnmbdgdjkgaaGreatDoorGA
import Derived.Test.YtfegnmbdgdjkgaaGreatDoorGI
import Derived.Test.YtfegnmbdgdjkgaaGreatDoorGB
namespace Go.Proofs.YtfegnmbdgdjkgaaGreatDoor
open Go.RowKit

def SmallE38 (x : ExprD) (w : World) (e : Ending) (w' : World) : Prop := ∃ k : Int, e = .returned (.int .i64 k) ∧ -1 ≤ k ∧ k ≤ 400 ∧ Hid (0 ≤ k → smlE x) ∧ Below w.heap.size w w'
set_option maxRecDepth 100000 in
set_option maxHeartbeats 3200000 in
theorem small38 (n : Nat) : ∀ (x : ExprD) (w : World) (B N : Nat) (cs : List Value) (left : Int), n ≤ 60 → 0 ≤ left → left ≤ 400 → N ≤ 1073741824 → B ≤ w.heap.size → ExprD.At w B N x cs →
    Calls Tryz.prog 7 #[.agg cs.toArray, .int .i64 left, .int .i64 n] w (SmallE38 x w) := by
  induction n with
  | zero =>
    intro x w B N cs left hn hl0 hl1 hN hB hx
    have H0 := Lib.hid (belowBox w (.cells cs.toArray 34))
    clear hx
    go_enter Tryz.func7, Tryz.ntmps7
    go_wp2_with fail
    go_ret
    exact ⟨_, rfl, by omega, by omega, Lib.hid (fun h => absurd h (by decide)), H0.out⟩
  | succ n ih =>
    intro x w B N cs left hn hl0 hl1 hN hB hx
    have IH := Lib.hid ih
    obtain ⟨aa, fa, ac, fc, vs, hh⟩ := hx.has
    have c15 := hh.args
    have c16 := hh.funcs
    have hal : x.args.length ≤ N := hh.own.2.2.1
    have hfl : x.funcs.length ≤ N := hh.own.2.2.2
    have HA := Lib.hid hh.atArgs
    have HU := Lib.hid hh.atFuncs
    have H0 := Lib.hid (belowBox w (.cells cs.toArray 34))
    have R0 := Lib.hid (box_at w cs 34)
    have e15 := R0.out.get0 c15
    have e16 := R0.out.get0 c16
    clear hh hx ih
    by_cases ha : left - 1 < x.args.length
    · go_enter Tryz.func7, Tryz.ntmps7
      go_wp2_with fail
      all_goals
        go_ret
        exact ⟨_, rfl, by omega, by omega, Lib.hid (fun h => absurd h (by decide)), H0.out⟩
    have ha2 : (x.args.length : Int) ≤ left - 1 := by omega
    by_cases hf : left - 1 < x.funcs.length
    · clear ha
      go_enter Tryz.func7, Tryz.ntmps7
      go_wp2_with fail
      all_goals
        go_ret
        exact ⟨_, rfl, by omega, by omega, Lib.hid (fun h => absurd h (by decide)), H0.out⟩
    have hf2 : (x.funcs.length : Int) ≤ left - 1 := by omega
    have HSM := Lib.hid (show x.args.length ≤ 65536 by omega)
    clear ha hf
    go_enter Tryz.func7, Tryz.ntmps7
    go_wp2_with fail
    all_goals first
      | (exfalso
         rename_i hh
         rcases hh with (hh | hh) | hh
         · simp at hh <;> omega
         · omega
         · omega)
      | skip
    go_simp
    go_loopw [1, 7] (fun l i wr => ∃ (y : Int) (k : Nat), k ≤ x.args.length ∧ l = .int .i64 y ∧ i = .int .i64 k ∧ -1 ≤ y ∧ y ≤ 400 ∧ Hid (0 ≤ y → ∀ j (h : j < x.args.length), j < k → smlE x.args[j]) ∧ Hid (CellsAt wr w.heap.size 0 cs) ∧ Hid (Below w.heap.size w wr) ∧ Hid (w.heap.size < wr.heap.size)) (fun _ i _ => x.args.length - (intOf i).toNat)
    case atStart => exact ⟨_, 0, by omega, rfl, rfl, by omega, by omega, Lib.hid (fun _ j _ hj => absurd hj (by omega)), R0, H0, Lib.hid (by rw [World.size_alloc]; omega)⟩
    case round =>
      obtain ⟨w1, rfl⟩ : ∃ w1, w1 = wr := ⟨wr, rfl⟩
      clear R0 H0 e15 e16
      obtain ⟨y, k, hk, rfl, rfl, hy0, hy1, HY, R1, H1, HS1⟩ := hrel
      have d15 := R1.out.get0 c15
      have hcase : (k < x.args.length ∧ 0 ≤ y) ∨ (k < x.args.length ∧ ¬ 0 ≤ y) ∨ ¬ k < x.args.length := by omega
      rcases hcase with ⟨hlt, hge⟩ | hstop
      case inl =>
        obtain ⟨b, p, rfl, hb, hget⟩ := HA.out.get (by intro h; simp [h] at hlt)
        obtain ⟨es, g1, g2⟩ := hget k hlt
        have HB1 := Lib.hid (H1.out.mono hB)
        have HR := Lib.hid (g1.below HB1.out hb).range
        have hle := Lib.hid (show (Tryz.prog.info? 34).map (·.size) = some es.length by rw [g2.len]; exact sizeE)
        have HE := Lib.hid (g2.below HB1.out)
        clear g1 g2 hget
        go_wp2_with (refine wpList_load_mid rfl 34 _ rfl b (p + k * 17) rfl es _ HR.out Tryz.underlying34 rfl hle.out ?_)
        refine (IH.out x.args[k] _ B N es y (by omega) hge hy1 hN (Nat.le_trans hB H1.out.size) HE.out).mono ?_
        rintro e w3 ⟨z, rfl, hz0, hz1, HZ, hb3⟩
        have HB3 := Lib.hid (belowThen H1.out hb3)
        have R3 := Lib.hid (R1.out.then hb3 HS1.out)
        have hs3 := Lib.hid (Nat.lt_of_lt_of_le HS1.out hb3.size)
        have HYN := Lib.hid (show 0 ≤ z → ∀ j (h : j < x.args.length), j < k + 1 → smlE x.args[j] from fun hz j hj hjk => by
          by_cases hjk2 : j = k
          · subst hjk2; exact HZ.out hz
          · exact HY.out hge j hj (by omega))
        clear hb3 d15
        go_wp2_with fail
        go_roundw
        case rel => exact ⟨z, k + 1, by omega, rfl, by go_num, hz0, hz1, HYN, R3, HB3, hs3⟩
        case measure => simp [intOf]; omega
      have HYA := Lib.hid (show 0 ≤ y → ∀ j (h : j < x.args.length), smlE x.args[j] from fun hz j hj => HY.out hz j hj (by rcases hstop with ⟨_, h⟩ | h <;> omega))
      rcases hstop with ⟨hs1, hs2⟩ | hs1
      all_goals
        go_wp2_with fail
        go_simp
        go_loopw [1, 8] (fun l i wr => ∃ (y : Int) (k : Nat), k ≤ x.funcs.length ∧ l = .int .i64 y ∧ i = .int .i64 k ∧ -1 ≤ y ∧ y ≤ 400 ∧ Hid (0 ≤ y → (∀ j (h : j < x.args.length), smlE x.args[j]) ∧ ∀ j (h : j < x.funcs.length), j < k → smlE x.funcs[j].body) ∧ Hid (CellsAt wr w.heap.size 0 cs) ∧ Hid (Below w.heap.size w wr) ∧ Hid (w.heap.size < wr.heap.size)) (fun _ i _ => x.funcs.length - (intOf i).toNat)
        case atStart => exact ⟨_, 0, by omega, rfl, rfl, by omega, by omega, Lib.hid (fun h => ⟨HYA.out h, fun j _ hj => absurd hj (by omega)⟩), R1, H1, HS1⟩
        case round =>
          obtain ⟨w1, rfl⟩ : ∃ w1, w1 = wr := ⟨wr, rfl⟩
          clear HY HYA R1 H1 HS1 d15 hy0 hy1
          obtain ⟨y, k, hk, rfl, rfl, hy0, hy1, HY, R1, H1, HS1⟩ := hrel
          have d16 := R1.out.get0 c16
          have hcase : (k < x.funcs.length ∧ 0 ≤ y) ∨ (k < x.funcs.length ∧ ¬ 0 ≤ y) ∨ ¬ k < x.funcs.length := by omega
          rcases hcase with ⟨hlt, hge⟩ | hstop
          case inl =>
            obtain ⟨b, p, rfl, hb, hget⟩ := HU.out.get (by intro h; simp [h] at hlt)
            obtain ⟨fs, g1, g2⟩ := hget k hlt
            obtain ⟨es, g3, g4⟩ := FuncD.At.bodyAt g1 g2
            have HB1 := Lib.hid (H1.out.mono hB)
            have HR := Lib.hid (g3.below HB1.out hb).range
            have hle := Lib.hid (show (Tryz.prog.info? 34).map (·.size) = some es.length by rw [g4.len]; exact sizeE)
            have HE := Lib.hid (g4.below HB1.out)
            clear g1 g2 g3 g4 hget
            go_wp2_with (refine wpList_load_mid rfl 34 _ rfl b (p + k * 19 + 2) rfl es _ HR.out Tryz.underlying34 rfl hle.out ?_)
            refine (IH.out x.funcs[k].body _ B N es y (by omega) hge hy1 hN (Nat.le_trans hB H1.out.size) HE.out).mono ?_
            rintro e w3 ⟨z, rfl, hz0, hz1, HZ, hb3⟩
            have HB3 := Lib.hid (belowThen H1.out hb3)
            have R3 := Lib.hid (R1.out.then hb3 HS1.out)
            have hs3 := Lib.hid (Nat.lt_of_lt_of_le HS1.out hb3.size)
            have HYN := Lib.hid (show 0 ≤ z → (∀ j (h : j < x.args.length), smlE x.args[j]) ∧ ∀ j (h : j < x.funcs.length), j < k + 1 → smlE x.funcs[j].body from fun hz => ⟨(HY.out hge).1, fun j hj hjk => by
              by_cases hjk2 : j = k
              · subst hjk2; exact HZ.out hz
              · exact (HY.out hge).2 j hj (by omega)⟩)
            clear hb3 d16
            go_wp2_with fail
            go_roundw
            case rel => exact ⟨z, k + 1, by omega, rfl, by go_num, hz0, hz1, HYN, R3, HB3, hs3⟩
            case measure => simp [intOf]; omega
          have HR := Lib.hid (show 0 ≤ y → smlE x from fun hz => smlE_iff.2 ⟨HSM.out, smlL_of _ (HY.out hz).1, smlF_of _ fun j hj => (HY.out hz).2 j hj (by rcases hstop with ⟨_, h⟩ | h <;> omega)⟩)
          rcases hstop with ⟨hs3, hs4⟩ | hs3
          all_goals
            go_wp2_with fail
            go_ret
            exact ⟨_, rfl, hy0, hy1, HR, H1.out⟩
end Go.Proofs.YtfegnmbdgdjkgaaGreatDoor

/- The law's 'few' (datakitlaw38.few): of one expression, it returns, and writes nothing that was there. -/
namespace Go.Proofs.YtfegnmbdgdjkgaaGreatDoor
open Go.RowKit

def BoolB38 (w : World) (e : Ending) (w' : World) : Prop := ∃ (k : Bool), e = .returned (.bool k) ∧ Below w.heap.size w w'
theorem wpList_load_mid_f {P : Program} {ops : Array Oper} {rest : List Oper} {op : Oper} {a : Act} {w : World} {Q : Exit → Act → World → Prop} (hw : Region.wanted op (yielded ops a.tmps) = true) (ty : TypeId) (x : Operand) (ho : op.op = .load ty x)
    (b o : Nat) (hx : a.eval x = .pointer (some ⟨b, o, none⟩)) (cs : List Value) (d : TypeDesc) (hc : w.rangeAt b o cs)
    (hu : P.underlying ty = some d) (hd : d.isRow = true) (hi : (P.info? ty).map (·.size) = some cs.length)
    (h : wpList P ops Q rest (a.put op.dst (.agg cs.toArray)) w) : wpList P ops Q (op :: rest) a w :=
  wpList_step fun K hK => by rw [if_pos hw]; exact wp_load_mid ty x ho b o hx cs d hc hu hd hi (hK _ _ h)
theorem zeroV_at (w : World) (B N : Nat) : ValD.At w B N (.mk 0 false ⟨false, ⟨#[]⟩, 0⟩ ⟨0, 0, 0, 0⟩ ⟨#[]⟩ [] [] []) [.int .i64 0, .bool false, .bool false, .string ⟨#[]⟩, .int .i64 0, .int .i64 0, .int .i64 0, .int .i64 0, .int .i64 0, .string ⟨#[]⟩, .slice none 0 0, .slice none 0 0, .slice none 0 0] := by
  refine ⟨none, none, none, 0, 0, 0, rfl, ?_, .inl rfl, trivial, trivial⟩
  simp [ValD.Own, ValD.kind, ValD.num, ValD.time, ValD.text, ValD.bytes, ValD.list, ValD.fields, I64, ByteArray.size]
theorem holder_at {w : World} {B N b c : Nat} {x : ExprD} {cs : List Value} (hN1 : 1 ≤ N) (hb : b < B) (h1 : CellsAt w b 0 cs) (hx : ExprD.At w B N x cs) :
    ExprD.At w B N (.mk 0 ⟨#[]⟩ (.mk 0 false ⟨false, ⟨#[]⟩, 0⟩ ⟨0, 0, 0, 0⟩ ⟨#[]⟩ [] [] []) [x] [])
      [.int .i64 0, .string ⟨#[]⟩, .int .i64 0, .bool false, .bool false, .string ⟨#[]⟩, .int .i64 0, .int .i64 0, .int .i64 0, .int .i64 0, .int .i64 0, .string ⟨#[]⟩, .slice none 0 0, .slice none 0 0, .slice none 0 0, .slice (some ⟨b, 0, none⟩) 1 c, .slice none 0 0] := by
  refine ⟨_, some ⟨b, 0, none⟩, none, c, 0, rfl, ?_, zeroV_at w B N, ⟨⟨b, 0, cs, rfl, hb, h1, hx⟩, trivial⟩, trivial⟩
  simp [ExprD.Own, ExprD.op, ExprD.name, ExprD.args, ExprD.funcs, I64, ByteArray.size]
  exact hN1

set_option maxRecDepth 100000 in
set_option maxHeartbeats 1600000 in
theorem few38 (x : ExprD) (w : World) (B N : Nat) (cs : List Value) (hN : N ≤ 1048576) (hN1 : 1 ≤ N) (hB : B ≤ w.heap.size) (hx : ExprD.At w B N x cs) :
    Calls Tryz.prog 4 #[.slice none 0 0, .agg cs.toArray] w (BoolB38 w) := by
  have R0 := Lib.hid (box_at w cs 34)
  have hl := Lib.hid (show (Tryz.prog.info? 34).map (·.size) = some cs.length by rw [hx.len]; exact sizeE)
  have hfz := fold_zip0 cs #[.int .i64 0, .string ⟨#[]⟩, .int .i64 0, .bool false, .bool false, .string ⟨#[]⟩, .int .i64 0, .int .i64 0, .int .i64 0, .int .i64 0, .int .i64 0, .string ⟨#[]⟩, .slice none 0 0, .slice none 0 0, .slice none 0 0, .slice none 0 0, .slice none 0 0] (by rw [hx.len]; rfl)
  have HB2 := Lib.hid (belowThen (belowBox w (.cells cs.toArray 34)) (belowBox (w.alloc (.cells cs.toArray 34)) (.cells cs.toArray 34)))
  have hbx := box_at (w.alloc (.cells cs.toArray 34)) cs 34
  rw [World.size_alloc] at hbx
  have HX := Lib.hid (holder_at (w := (w.alloc (.cells cs.toArray 34)).alloc (.cells cs.toArray 34)) (B := ((w.alloc (.cells cs.toArray 34)).alloc (.cells cs.toArray 34)).heap.size) (b := w.heap.size + 1) (c := 1) hN1 (by rw [World.size_alloc (w.alloc _), World.size_alloc]; omega)
    hbx ((hx.below (HB2.out.mono hB)).mono (Nat.le_trans hB HB2.out.size)))
  clear hbx
  have hlen := hx.len
  clear hx
  go_enter Tryz.func4, Tryz.ntmps4
  go_wp2_with (refine wpList_load_mid_f rfl 34 _ rfl w.heap.size 0 rfl cs _ R0.out.range Tryz.underlying34 rfl hl.out ?_)
  refine (small38 60 _ _ _ N _ 400 (Nat.le_refl _) (by omega) (by omega) (by omega) (Nat.le_refl _) HX.out).mono ?_
  rintro e w1 ⟨k, rfl, _, _, _, hb1⟩
  have H1 := Lib.hid (belowThen HB2.out hb1)
  clear hb1
  go_wp2_with fail
  go_ret
  exact ⟨_, rfl, H1.out⟩
end Go.Proofs.YtfegnmbdgdjkgaaGreatDoor

/- The law's 'few' (datakitlaw38.few) with functions: it returns, writes nothing that was there, and where it says yes no node has more arguments than 65536. -/
namespace Go.Proofs.YtfegnmbdgdjkgaaGreatDoor
open Go.RowKit

def BoolS39 (l : List FuncD) (x : ExprD) (w : World) (e : Ending) (w' : World) : Prop := ∃ (k : Bool), e = .returned (.bool k) ∧ Hid (k = true → smlF l ∧ smlE x) ∧ Below w.heap.size w w'
theorem holder39_at {w : World} {B N b c : Nat} {x : ExprD} {cs : List Value} {l : List FuncD} {fa : Option Addr} {fc : Nat} (hN1 : 1 ≤ N) (hb : b < B) (h1 : CellsAt w b 0 cs) (hx : ExprD.At w B N x cs) (hl : l.length ≤ N) (hA : FuncsAt w B N l fa) :
    ExprD.At w B N (.mk 0 ⟨#[]⟩ (.mk 0 false ⟨false, ⟨#[]⟩, 0⟩ ⟨0, 0, 0, 0⟩ ⟨#[]⟩ [] [] []) [x] l)
      [.int .i64 0, .string ⟨#[]⟩, .int .i64 0, .bool false, .bool false, .string ⟨#[]⟩, .int .i64 0, .int .i64 0, .int .i64 0, .int .i64 0, .int .i64 0, .string ⟨#[]⟩, .slice none 0 0, .slice none 0 0, .slice none 0 0, .slice (some ⟨b, 0, none⟩) 1 c, .slice fa l.length fc] := by
  refine ⟨_, some ⟨b, 0, none⟩, fa, c, fc, rfl, ?_, zeroV_at w B N, ⟨⟨b, 0, cs, rfl, hb, h1, hx⟩, trivial⟩, hA⟩
  simp [ExprD.Own, ExprD.op, ExprD.name, ExprD.args, ExprD.funcs, I64, ByteArray.size]
  exact ⟨hN1, hl⟩

set_option maxRecDepth 100000 in
set_option maxHeartbeats 1600000 in
theorem few39 (l : List FuncD) (x : ExprD) (fa : Option Addr) (fc : Nat) (w : World) (B N : Nat) (cs : List Value) (hN : N ≤ 1048576) (hN1 : 1 ≤ N) (hl : l.length ≤ N) (hB : B ≤ w.heap.size) (hA : FuncsAt w B N l fa) (hx : ExprD.At w B N x cs) :
    Calls Tryz.prog 4 #[.slice fa l.length fc, .agg cs.toArray] w (BoolS39 l x w) := by
  have R0 := Lib.hid (box_at w cs 34)
  have hll := Lib.hid (show (Tryz.prog.info? 34).map (·.size) = some cs.length by rw [hx.len]; exact sizeE)
  have hfz := fold_zip0 cs #[.int .i64 0, .string ⟨#[]⟩, .int .i64 0, .bool false, .bool false, .string ⟨#[]⟩, .int .i64 0, .int .i64 0, .int .i64 0, .int .i64 0, .int .i64 0, .string ⟨#[]⟩, .slice none 0 0, .slice none 0 0, .slice none 0 0, .slice none 0 0, .slice none 0 0] (by rw [hx.len]; rfl)
  have HB1 := Lib.hid (belowBox w (.cells cs.toArray 34))
  have HB2 := Lib.hid (belowThen (belowBox w (.cells cs.toArray 34)) (belowBox (w.alloc (.cells cs.toArray 34)) (.cells cs.toArray 34)))
  have hbx := box_at (w.alloc (.cells cs.toArray 34)) cs 34
  rw [World.size_alloc] at hbx
  have HX := Lib.hid (holder39_at (w := (w.alloc (.cells cs.toArray 34)).alloc (.cells cs.toArray 34)) (B := ((w.alloc (.cells cs.toArray 34)).alloc (.cells cs.toArray 34)).heap.size) (b := w.heap.size + 1) (c := 1) (fa := fa) (fc := fc) hN1 (by rw [World.size_alloc (w.alloc _), World.size_alloc]; omega)
    hbx ((hx.below (HB2.out.mono hB)).mono (Nat.le_trans hB HB2.out.size)) hl (FuncsAt.mono (Nat.le_trans hB HB2.out.size) _ (FuncsAt.below (HB2.out.mono hB) _ hA)))
  clear hbx
  have hlen := hx.len
  clear hx hA
  by_cases ha : (l.length : Int) < 300
  · go_enter Tryz.func4, Tryz.ntmps4
    go_wp2_with (refine wpList_load_mid_f rfl 34 _ rfl w.heap.size 0 rfl cs _ R0.out.range Tryz.underlying34 rfl hll.out ?_)
    refine (small38 60 _ _ _ N _ 400 (Nat.le_refl _) (by omega) (by omega) (by omega) (Nat.le_refl _) HX.out).mono ?_
    rintro e w1 ⟨k, rfl, _, _, HK, hb1⟩
    have H1 := Lib.hid (belowThen HB2.out hb1)
    clear hb1
    go_wp2_with fail
    go_ret
    exact ⟨_, rfl, Lib.hid (fun h => by
      have := smlE_iff.1 (HK.out (by simpa using h))
      exact ⟨this.2.2, this.2.1.1⟩), H1.out⟩
  · go_enter Tryz.func4, Tryz.ntmps4
    go_wp2_with fail
    go_ret
    exact ⟨_, rfl, Lib.hid (fun h => by simp at h), HB1.out⟩
end Go.Proofs.YtfegnmbdgdjkgaaGreatDoor
