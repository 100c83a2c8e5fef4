/- The reference's check of functions (datakitref36.funcs), given 'look' at the same depth: it returns, and writes nothing that was there. -/
import Derived.Test.YtbpdbmjfnbpihaaLook36b
namespace Go.Proofs.Ytbpdbmjfnbpihaa
open Go.RowKit

theorem wpList_store_new {P : Program} {ops : Array Oper} {rest : List Oper} {op : Oper} {a : Act} {w : World} {Q : Exit → Act → World → Prop} (hgd : op.guard = none) (ty : TypeId) (x y : Operand) (ho : op.op = .store ty x y)
    (c c' : Array Value) (hx : a.eval x = .pointer (some ⟨w.heap.size, 0, none⟩)) (hy : a.eval y = .agg c')
    (hi : (P.info? ty).map (·.size) = some c'.size) (hc : c.size = c'.size) (h1 : c'.all (·.oneCell') = true)
    (h : wpList P ops Q rest (a.put op.dst undef) (w.alloc (.cells c' ty))) : wpList P ops Q (op :: rest) a (w.alloc (.cells c ty)) :=
  wpList_plain hgd fun _ hK => by
    unfold Oper.wp execOp
    simp only [ho, hx, hy, Instr.storeAt, Instr.sureAddr, Sem.run_bind, Sem.run_pure, Result.andThen_ok, run_storeVar_new w ty c c' hi hc h1]
    exact hK _ _ h

structure FuncD.Has (w : World) (B N : Nat) (f : FuncD) (cs : List Value) (pa : Option Addr) (pc : Nat) (es : List Value) : Prop where
  len : cs.length = 19
  name : cs[0]? = some (.string f.name)
  params : cs[1]? = some (.slice pa f.params.length pc)
  body : cs.drop 2 = es
  one : ∀ v ∈ cs, v.oneCell' = true
  hn : f.name.size ≤ N
  hp : f.params.length ≤ N
  atPar : ParamsAt w B N f.params pa
  atBody : ExprD.At w B N f.body es
theorem ExprD.At.one {w : World} {B N : Nat} {e : ExprD} {cs : List Value} (h : ExprD.At w B N e cs) : ∀ v ∈ cs, v.oneCell' = true := by
  obtain ⟨ya, la, va, aa, fa, yc, lc, vc, ac, fc, rfl, _⟩ := h.row
  intro v hv
  simp only [ExprD.row, List.mem_cons, List.mem_nil_iff, or_false] at hv
  rcases hv with rfl | rfl | rfl | rfl | rfl | rfl | rfl | rfl | rfl | rfl | rfl | rfl | rfl | rfl | rfl | rfl | rfl <;> rfl
theorem FuncD.At.has {w : World} {B N : Nat} {f : FuncD} {cs : List Value} (h : FuncD.At w B N f cs) : ∃ pa pc es, FuncD.Has w B N f cs pa pc es := by
  have hl := h.len
  obtain ⟨nm, ps, e⟩ := f
  obtain ⟨pa, pc, es, rfl, h1, h2, h3, h4⟩ := h
  refine ⟨pa, pc, es, ⟨hl, rfl, rfl, rfl, fun v hv => ?_, h1, h2, h3, h4⟩⟩
  simp only [List.mem_cons] at hv
  rcases hv with rfl | rfl | hv
  · rfl
  · rfl
  · exact h4.one v hv
theorem CellsAt.drop2 {w : World} {b : Nat} {cs es : List Value} (h : CellsAt w b 0 cs) (hd : cs.drop 2 = es) : CellsAt w b 2 es := fun j hj => by
  subst hd
  have hj' : j + 2 < cs.length := by simp at hj; omega
  have := h (j + 2) hj'
  rw [List.getElem?_drop, show 2 + j = j + 2 by omega, ← this, show 0 + (j + 2) = j + 2 by omega]
theorem sizeFN : (Try.prog.info? 57).map (·.size) = some 19 := by kernel_rfl
theorem ParamsAt.mono' {w : World} {B B' N : Nat} (h : B ≤ B') {l : List ParD} {a : Option Addr} (hp : ParamsAt w B N l a) : ParamsAt w B' N l a := ParamsAt.mono h l hp

set_option maxRecDepth 100000 in
set_option maxHeartbeats 6400000 in
theorem funcs_of (m : Nat) (ih : LookAt m) : FuncsAtD m := by
  intro l a c w B N depth seen hd hN hB hl hA
  have IH := Lib.hid ih
  have HD := Lib.hid hd
  have HA := Lib.hid hA
  clear ih hd hA
  by_cases hbig : 256 < l.length
  · go_enter Try.func21, Try.ntmps21
    go_wp2_with fail
    go_ret2
    exact ⟨_, _, rfl, Below.refl _ _⟩
  go_enter Try.func21, Try.ntmps21
  go_wp2_with fail
  go_simp
  go_loopw [2, 10] (fun s i wr => ∃ (y : Int) (k : Nat), k ≤ l.length ∧ s = .int .i64 y ∧ i = .int .i64 k ∧ Below w.heap.size w wr) (fun _ i _ => l.length - (intOf i).toNat)
  case atStart => exact ⟨_, 0, by omega, rfl, rfl, Below.refl _ _⟩
  case round =>
    obtain ⟨w1, rfl⟩ : ∃ w1, w1 = wr := ⟨wr, rfl⟩
    obtain ⟨y, k, hk, rfl, rfl, hbel⟩ := hrel
    have HB := Lib.hid hbel
    clear hbel
    by_cases hlt : k < l.length
    case neg =>
      go_wp2_with fail
      go_ret2
      exact ⟨_, _, rfl, HB.out⟩
    obtain ⟨b, p, rfl, hb, hget⟩ := HA.out.get (by intro h; simp [h] at hlt)
    have hbw := Lib.hid (Nat.lt_of_lt_of_le hb hB)
    have hBr := Lib.hid (Nat.le_trans hB HB.out.size)
    have G := Lib.hid hget
    obtain ⟨fs, g1, g2⟩ := hget k hlt
    have HR := Lib.hid (g1.below HB.out hbw.out).range
    obtain ⟨pa, pc, es, gh⟩ := (g2.below (HB.out.mono hB)).has
    have f0 := gh.name
    have f1 := gh.params
    have hlf := Lib.hid (show (Try.prog.info? 57).map (·.size) = some fs.length by rw [gh.len]; exact sizeFN)
    have hlf2 := Lib.hid (show (Try.prog.info? 57).map (·.size) = some fs.toArray.size by rw [List.size_toArray, gh.len]; exact sizeFN)
    have h19 := Lib.hid (show 19 = fs.toArray.size by rw [List.size_toArray, gh.len])
    have hone := Lib.hid (show fs.toArray.all (·.oneCell') = true from Go.all_oneCell_toArray gh.one)
    have hnm := Lib.hid (show (l[k]).name.size ≤ maxLen by have := gh.hn; unfold maxLen; omega)
    have hpl : (l[k]).params.length ≤ N := gh.hp
    have HP := Lib.hid gh.atPar
    have HE := Lib.hid gh.atBody
    have HBd := Lib.hid gh.body
    have FX := Lib.hid (box_at w1 fs 57)
    have HW := Lib.hid (show Below w.heap.size w (w1.alloc (.cells fs.toArray 57)) from belowThen HB.out (belowBox w1 _))
    have hwr := Lib.hid (show w1.heap.size < (w1.alloc (.cells fs.toArray 57)).heap.size by rw [World.size_alloc]; omega)
    clear gh g1 g2 hget hb
    go_wp2_with (first
      | (refine wpList_load_mid rfl 57 _ rfl b (p + k * 19) rfl fs _ HR.out Try.underlying57 rfl hlf.out ?_)
      | (refine wpList_store_new rfl 57 _ _ rfl _ fs.toArray rfl rfl hlf2.out h19.out hone.out ?_)
      | (go_at_call 33; refine (identR _ _ hnm.out).mono ?_; rintro e w' ⟨rfl, rfl⟩))
    all_goals first
      | (go_ret2; exact ⟨_, _, rfl, HW.out⟩)
      | skip
    go_simp
    go_loopw [12] (fun i w2 => ∃ (k2 : Nat), k2 ≤ (l[k]).params.length ∧ i = .int .i64 k2 ∧ Below (w1.alloc (.cells fs.toArray 57)).heap.size (w1.alloc (.cells fs.toArray 57)) w2) (fun i _ => (l[k]).params.length - (intOf i).toNat)
    case atStart => exact ⟨0, by omega, rfl, Below.refl _ _⟩
    case round =>
      obtain ⟨w2, rfl⟩ : ∃ w2, w2 = wr := ⟨wr, rfl⟩
      obtain ⟨k2, hk2, rfl, hb2⟩ := hrel
      have F2 := Lib.hid (FX.out.below hb2 hwr.out)
      have B2 := Lib.hid hb2
      clear hb2
      have d1 := F2.out.get0 f1
      by_cases hlt2 : k2 < (l[k]).params.length
      case pos =>
        obtain ⟨b2, p2, rfl, hp2, hpar⟩ := HP.out.get (by intro h; simp [h] at hlt2)
        have PB := Lib.hid (show Below B w1 w2 from ((belowThen (belowBox w1 _) B2.out).mono hBr.out))
        have GP := Lib.hid hpar
        have q0 := ((hpar k2 hlt2).2.below PB.out hp2).get0' rfl
        have hn2 := Lib.hid (show ((l[k]).params[k2]).name.size ≤ maxLen by have := (hpar k2 hlt2).1; unfold maxLen; omega)
        clear hpar
        go_wp2_with (first
          | (go_at_call 33; refine (identR _ _ hn2.out).mono ?_; rintro e w' ⟨rfl, rfl⟩))
        all_goals first
          | (go_ret2; exact ⟨_, _, rfl, belowThen HW.out B2.out⟩)
          | skip
        go_simp
        go_loopw [13] (fun i w3 => ∃ (k3 : Nat), k3 ≤ k2 ∧ i = .int .i64 k3 ∧ ∃ q, w3 = w2.drewN q) (fun i _ => k2 - (intOf i).toNat)
        case atStart => exact ⟨0, by omega, rfl, 0, rfl⟩
        case round =>
          obtain ⟨k3, hk3, rfl, q, rfl⟩ := hrel
          by_cases hlt3 : k3 < k2
          case pos =>
            have hlt4 : k3 < (l[k]).params.length := by omega
            have q1 := ((GP.out k3 hlt4).2.below PB.out hp2).get0' rfl
            go_wp2_with fail
            go_quiet (fail)
            go_wp2_with fail
            · go_ret2
              exact ⟨_, _, rfl, belowThen (belowThen HW.out B2.out) (below_drewN' ⟨_, World.drewN_drewN _ _ _⟩)⟩
            · go_roundw
              case rel => exact ⟨k3 + 1, by omega, by go_num, _, rfl⟩
              case measure => simp [intOf]; omega
          case neg =>
            go_wp2_with fail
            go_roundw
            case rel => exact ⟨k2 + 1, by omega, by go_num, belowThen B2.out (below_drewN _ _)⟩
            case measure => simp [intOf]; omega
      case neg =>
        have hw2 : w1.heap.size < w2.heap.size := Nat.lt_of_lt_of_le hwr.out B2.out.size
        have BB := Lib.hid (show Below w.heap.size w w2 from belowThen HW.out B2.out)
        have d0 := F2.out.get0 f0
        have FE := Lib.hid (F2.out.drop2 HBd.out)
        have HE2 := Lib.hid (HE.out.below (show Below B w1 w2 from ((belowThen (belowBox w1 _) B2.out).mono hBr.out)))
        have hle := Lib.hid (show (Try.prog.info? 38).map (·.size) = some es.length by rw [HE.out.len]; exact sizeE)
        go_wp2_with fail
        go_simp
        go_loopw [14] (fun i w3 => ∃ (k4 : Nat), k4 ≤ k ∧ i = .int .i64 k4 ∧ ∃ q, w3 = w2.drewN q) (fun i _ => k - (intOf i).toNat)
        case atStart => exact ⟨0, by omega, rfl, 0, rfl⟩
        case round =>
          obtain ⟨k4, hk4, rfl, q, rfl⟩ := hrel
          by_cases hlt4 : k4 < k
          case pos =>
            have hlt5 : k4 < l.length := by omega
            obtain ⟨fs4, g1, g2⟩ := G.out k4 hlt5
            obtain ⟨_, _, _, gh⟩ := g2.has
            have q1 := (g1.below BB.out hbw.out).get0' gh.name
            clear gh g1 g2
            go_wp2_with fail
            go_quiet (fail)
            go_wp2_with fail
            · go_ret2
              exact ⟨_, _, rfl, belowThen BB.out (below_drewN' ⟨_, World.drewN_drewN _ _ _⟩)⟩
            · go_roundw
              case rel => exact ⟨k4 + 1, by omega, by go_num, _, rfl⟩
              case measure => simp [intOf]; omega
          case neg =>
            have HR2 := Lib.hid (FE.out.below (below_drewN w2 q) hw2).range
            have hBw : B ≤ w2.heap.size := Nat.le_trans hB BB.out.size
            have HE3 := Lib.hid (HE2.out.below ((below_drewN w2 q).mono hBw))
            have BBq := Lib.hid (belowThen BB.out (below_drewN w2 q))
            go_wp2_with (refine wpList_load_mid rfl 38 _ rfl w1.heap.size 2 rfl es _ HR2.out Try.underlying38 rfl hle.out ?_)
            refine (IH.out (l[k]).body _ B N es depth y HD.out hN (Nat.le_trans hB BBq.out.size) HE3.out).mono ?_
            rintro e6 w6 ⟨y6, z6, rfl, _, hb6⟩
            have HB6 := Lib.hid (belowThen BBq.out hb6)
            clear hb6
            by_cases hz : z6 = 0
            · subst hz
              go_wp2_with fail
              go_roundw
              case rel => exact ⟨y6, k + 1, by omega, rfl, by go_num, HB6.out⟩
              case measure => simp [intOf]; omega
            · have hz1 : (z6 != 0) = true := by simpa using hz
              have hz2 : (z6 == 0) = false := by simpa using hz
              go_wp2_with fail
              go_ret2
              exact ⟨_, _, rfl, HB6.out⟩

theorem look_zero : LookAt 0 := by
  intro x w B N cs depth seen hd hN hB hx
  have H0 := Lib.hid (show Below w.heap.size w (w.alloc (.cells cs.toArray 38)) from belowBox w _)
  clear hx
  go_enter Try.func14, Try.ntmps14
  go_wp2_with fail
  go_ret2
  exact ⟨_, _, rfl, fun h => absurd h (by decide), H0.out⟩
theorem look36_any : ∀ m, LookAt m
  | 0 => look_zero
  | m + 1 => look_succ m (look36_any m) (funcs_of m (look36_any m))

def CheckR (x : ExprD) (w : World) (e : Ending) (w' : World) : Prop := ∃ (f : Int), e = .returned (.int .i64 f) ∧ (f = 0 → okE x) ∧ Below w.heap.size w w'
theorem check36_any (x : ExprD) (w : World) (B N : Nat) (cs : List Value) (hN : N ≤ 4294967296) (hB : B ≤ w.heap.size) (hx : ExprD.At w B N x cs) :
    Calls Try.prog 9 #[.agg cs.toArray] w (CheckR x w) := by
  have HX := Lib.hid hx
  have hl := Lib.hid (show (Try.prog.info? 38).map (·.size) = some cs.length by rw [hx.len]; exact sizeE)
  have H0 := Lib.hid (show Below w.heap.size w (w.alloc (.cells cs.toArray 38)) from belowBox w _)
  clear hx
  go_enter Try.func9, Try.ntmps9
  go_wp2_with (refine wpList_load_mid rfl 38 _ rfl w.heap.size 0 rfl cs _ (box_at w cs 38).range Try.underlying38 rfl hl.out ?_)
  refine (look36_any 48 x _ B N cs 1 0 (by omega) hN (Nat.le_trans hB H0.out.size) (HX.out.below (H0.out.mono hB))).mono ?_
  rintro e w1 ⟨n, f, rfl, ho, hb1⟩
  have HO := Lib.hid ho
  have H1 := Lib.hid (belowThen H0.out hb1)
  clear ho hb1
  go_wp2_with fail
  go_ret
  exact ⟨_, rfl, HO.out, H1.out⟩
end Go.Proofs.Ytbpdbmjfnbpihaa
