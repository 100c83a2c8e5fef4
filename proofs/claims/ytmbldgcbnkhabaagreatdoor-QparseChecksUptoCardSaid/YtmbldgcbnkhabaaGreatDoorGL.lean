/- Size: qparse.nodes, qparse.Size and datakitref36.Size say how many nodes an accepted expression has. -/
import Derived.Test.YtmbldgcbnkhabaaGreatDoorSiz36
import Derived.Test.YtmbldgcbnkhabaaGreatDoorGI
import Derived.Test.YtmbldgcbnkhabaaGreatDoorKeyx
import Derived.Test.YtmbldgcbnkhabaaGreatDoorGA
namespace Go.Proofs.YtmbldgcbnkhabaaGreatDoor
open Go.RowKit

set_option maxRecDepth 100000 in
set_option maxHeartbeats 3200000 in
theorem nodes_p (m : Nat) : ∀ (x : ExprD) (w : World) (B N : Nat) (cs : List Value) (left : Int), left = (m : Int) + 1 → m ≤ 47 → N ≤ 1073741824 → B ≤ w.heap.size → ndE m x ≤ 4096 → ExprD.At w B N x cs →
    Calls Tryz.prog 11 #[.agg cs.toArray, .int .i64 left] w (IntB (ndE m x : Int) w) := by
  induction m with
  | zero =>
    intro x w B N cs left hL hm hN hB hn hx
    have H0 := Lib.hid (belowBox w (.cells cs.toArray 34))
    obtain rfl : left = 1 := by omega
    clear hx hL
    go_enter Tryz.func11, Tryz.ntmps11
    go_wp2_with fail
    go_ret
    exact ⟨rfl, H0.out⟩
  | succ m ih =>
    intro x w B N cs left hL hm hN hB hn hx
    have IH := Lib.hid ih
    have HL := Lib.hid hL
    have HN := Lib.hid hn
    have hl1 : ¬ left ≤ 1 := by omega
    have hl2 : left ≤ 48 := by omega
    obtain ⟨aa, fa, ac, fc, vs, hh⟩ := hx.has
    have c15 := hh.args
    have c16 := hh.funcs
    have hal : x.args.length ≤ N := hh.own.2.2.1
    have hfl : x.funcs.length ≤ N := hh.own.2.2.2
    have HA := Lib.hid hh.atArgs
    have HU := Lib.hid hh.atFuncs
    have H0 := Lib.hid (belowBox w (.cells cs.toArray 34))
    have R0 := Lib.hid (box_at w cs 34)
    have hm47 : m ≤ 46 := by omega
    have e16 := R0.out.get0 c16
    clear hh hx ih hL hn
    go_enter Tryz.func11, Tryz.ntmps11
    go_wp2_with fail
    go_simp
    go_loopw [5, 16] (fun sv i wr => ∃ (y : Int) (k : Nat), k ≤ x.funcs.length ∧ sv = .int .i64 y ∧ i = .int .i64 k ∧ 0 ≤ y ∧ y ≤ 4096 ∧ Hid (y = 1 + (sumF m x.funcs k : Int)) ∧ Hid (CellsAt wr w.heap.size 0 cs) ∧ Hid (Below w.heap.size w wr) ∧ Hid (w.heap.size < wr.heap.size)) (fun _ i _ => x.funcs.length - (intOf i).toNat)
    case atStart => exact ⟨1, 0, by omega, rfl, rfl, by omega, by omega, Lib.hid (by rw [sumF_0]; rfl), R0, H0, Lib.hid (by rw [World.size_alloc]; omega)⟩
    case round =>
      obtain ⟨w1, rfl⟩ : ∃ w1, w1 = wr := ⟨wr, rfl⟩
      clear R0 H0 e16
      obtain ⟨y, k, hk, rfl, rfl, hy0, hy1, HY, R1, H1, HS1⟩ := hrel
      by_cases hlt : k < x.funcs.length
      case pos =>
        obtain ⟨b, p, rfl, hb, hget⟩ := HU.out.get (by intro h; simp [h] at hlt)
        obtain ⟨fs, g1, g2⟩ := hget k hlt
        have HB1 := Lib.hid (H1.out.mono hB)
        have HR := Lib.hid (g1.below HB1.out hb).range
        obtain ⟨pa, pc, es, gh⟩ := g2.has
        have hlf := Lib.hid (show (Tryz.prog.info? 42).map (·.size) = some fs.length by rw [gh.len]; exact sizeFN)
        have hlf2 := Lib.hid (show (Tryz.prog.info? 42).map (·.size) = some fs.toArray.size by rw [List.size_toArray, gh.len]; exact sizeFN)
        have h19 := Lib.hid (show 19 = fs.toArray.size by rw [List.size_toArray, gh.len])
        have hone := Lib.hid (show fs.toArray.all (·.oneCell') = true from Go.all_oneCell_toArray gh.one)
        have HE := Lib.hid gh.atBody
        have FX := Lib.hid ((box_at w1 fs 42).drop2 gh.body).range
        have HBX := Lib.hid (belowThen H1.out (belowBox w1 (.cells fs.toArray 42)))
        have R2 := Lib.hid (R1.out.then (belowBox w1 (.cells fs.toArray 42)) HS1.out)
        have hs2 := Lib.hid (show w.heap.size < (w1.alloc (.cells fs.toArray 42)).heap.size by rw [World.size_alloc]; have := HS1.out; omega)
        have hle := Lib.hid (show (Tryz.prog.info? 34).map (·.size) = some es.length by rw [HE.out.len]; exact sizeE)
        have hT := ndE_fun m x hlt
        obtain ⟨z, hz⟩ : ∃ z : Int, (ndE m x.funcs[k].body : Int) = z := ⟨_, rfl⟩
        have hnz := HN.out
        have hyv := HY.out
        have hst := sumF_step m hlt
        have hz0 : 0 ≤ z := by omega
        have hz1 : z ≤ 4096 := by omega
        have hyz : y + z ≤ 4096 := by omega
        have HT := Lib.hid (show ndE m x.funcs[k].body ≤ 4096 by omega)
        have HZ := Lib.hid hz
        have HYN := Lib.hid (show y + z = 1 + (sumF m x.funcs (k + 1) : Int) by omega)
        clear g1 g2 gh hget hT hz hnz hyv hst
        go_wp2_with (first
          | (refine wpList_load_mid rfl 42 _ rfl b (p + k * 19) rfl fs _ HR.out Tryz.underlying42 rfl hlf.out ?_)
          | (refine wpList_store_new rfl 42 _ _ rfl _ fs.toArray rfl rfl hlf2.out h19.out hone.out ?_)
          | (refine wpList_load_mid rfl 34 _ rfl w1.heap.size 2 rfl es _ FX.out Tryz.underlying34 rfl hle.out ?_))
        refine (IH.out x.funcs[k].body _ B N es (left - 1) (by have := HL.out; omega) (by omega) hN (Nat.le_trans hB HBX.out.size) HT.out (HE.out.below (HBX.out.mono hB))).mono ?_
        rintro e w3 ⟨rfl, hb3⟩
        rw [HZ.out]
        have HB3 := Lib.hid (belowThen HBX.out hb3)
        have R3 := Lib.hid (R2.out.then hb3 hs2.out)
        have hs3 := Lib.hid (Nat.lt_of_lt_of_le hs2.out hb3.size)
        clear hb3
        go_wp2_with fail
        go_roundw
        case rel => exact ⟨y + z, k + 1, by omega, rfl, by go_num, by omega, by omega, HYN, R3, HB3, hs3⟩
        case measure => simp [intOf]; omega
      case neg =>
        obtain rfl : k = x.funcs.length := by omega
        have d15 := R1.out.get0 c15
        go_wp2_with fail
        go_simp
        go_loopw [5, 31] (fun sv i wr => ∃ (y : Int) (k : Nat), k ≤ x.args.length ∧ sv = .int .i64 y ∧ i = .int .i64 k ∧ 0 ≤ y ∧ y ≤ 4096 ∧ Hid (y = 1 + (sumF m x.funcs x.funcs.length : Int) + (sumA m x.args k : Int)) ∧ Hid (Below w.heap.size w wr)) (fun _ i _ => x.args.length - (intOf i).toNat)
        case atStart => exact ⟨y, 0, by omega, rfl, rfl, by omega, by omega, Lib.hid (by rw [sumA_0]; have := HY.out; omega), H1⟩
        case round =>
          obtain ⟨w1, rfl⟩ : ∃ w1, w1 = wr := ⟨wr, rfl⟩
          clear HY R1 H1 HS1 d15 hy0 hy1
          obtain ⟨y, k, hk, rfl, rfl, hy0, hy1, HY, H1⟩ := hrel
          by_cases hlt : k < x.args.length
          case pos =>
            obtain ⟨b, p, rfl, hb, hget⟩ := HA.out.get (by intro h; simp [h] at hlt)
            obtain ⟨es, g1, g2⟩ := hget k hlt
            have HB1 := Lib.hid (H1.out.mono hB)
            have HR := Lib.hid (g1.below HB1.out hb).range
            have hle := Lib.hid (show (Tryz.prog.info? 34).map (·.size) = some es.length by rw [g2.len]; exact sizeE)
            have hle2 := Lib.hid (show (Tryz.prog.info? 34).map (·.size) = some es.toArray.size by rw [List.size_toArray, g2.len]; exact sizeE)
            have h17 := Lib.hid (show 17 = es.toArray.size by rw [List.size_toArray, g2.len])
            have hone := Lib.hid (show es.toArray.all (·.oneCell') = true from Go.all_oneCell_toArray g2.one)
            have HE := Lib.hid g2
            have FX := Lib.hid (box_at w1 es 34).range
            have HBX := Lib.hid (belowThen H1.out (belowBox w1 (.cells es.toArray 34)))
            have hT := ndE_arg m x hlt
            obtain ⟨z, hz⟩ : ∃ z : Int, (ndE m x.args[k] : Int) = z := ⟨_, rfl⟩
            have hnz := HN.out
            have hyv := HY.out
            have hst := sumA_step m hlt
            have hz0 : 0 ≤ z := by omega
            have hz1 : z ≤ 4096 := by omega
            have hyz : y + z ≤ 4096 := by omega
            have HT := Lib.hid (show ndE m x.args[k] ≤ 4096 by omega)
            have HZ := Lib.hid hz
            have HYN := Lib.hid (show y + z = 1 + (sumF m x.funcs x.funcs.length : Int) + (sumA m x.args (k + 1) : Int) by omega)
            clear g1 g2 hget hT hz hnz hyv hst
            go_wp2_with (first
              | (refine wpList_load_mid rfl 34 _ rfl b (p + k * 17) rfl es _ HR.out Tryz.underlying34 rfl hle.out ?_)
              | (refine wpList_store_new rfl 34 _ _ rfl _ es.toArray rfl rfl hle2.out h17.out hone.out ?_)
              | (refine wpList_load_mid rfl 34 _ rfl w1.heap.size 0 rfl es _ FX.out Tryz.underlying34 rfl hle.out ?_))
            refine (IH.out x.args[k] _ B N es (left - 1) (by have := HL.out; omega) (by omega) hN (Nat.le_trans hB HBX.out.size) HT.out (HE.out.below (HBX.out.mono hB))).mono ?_
            rintro e w3 ⟨rfl, hb3⟩
            rw [HZ.out]
            have HB3 := Lib.hid (belowThen HBX.out hb3)
            clear hb3
            go_wp2_with fail
            go_roundw
            case rel => exact ⟨y + z, k + 1, by omega, rfl, by go_num, by omega, by omega, HYN, HB3⟩
            case measure => simp [intOf]; omega
          case neg =>
            obtain rfl : k = x.args.length := by omega
            have HR := Lib.hid (show (ndE (m + 1) x : Int) = y by rw [ndE_succ]; have := HY.out; omega)
            go_wp2_with fail
            go_ret
            exact ⟨ret_int HR.out.symm, H1.out⟩
set_option maxRecDepth 100000 in
theorem size_p (x : ExprD) (w : World) (B N : Nat) (cs : List Value) (hN : N ≤ 1073741824) (hB : B ≤ w.heap.size) (hn : ndE 47 x ≤ 4096) (hx : ExprD.At w B N x cs) :
    Calls Tryz.prog 7 #[.agg cs.toArray] w (IntB (ndE 47 x : Int) w) := by
  have HX := Lib.hid hx
  have hl := Lib.hid (show (Tryz.prog.info? 34).map (·.size) = some cs.length by rw [hx.len]; exact sizeE)
  have H0 := Lib.hid (show Below w.heap.size w (w.alloc (.cells cs.toArray 34)) from belowBox w _)
  have HN := Lib.hid hn
  clear hx hn
  go_enter Tryz.func7, Tryz.ntmps7
  go_wp2_with (refine wpList_load_mid rfl 34 _ rfl w.heap.size 0 rfl cs _ (box_at w cs 34).range Tryz.underlying34 rfl hl.out ?_)
  refine (nodes_p 47 x _ B N cs 48 (by omega) (by omega) hN (Nat.le_trans hB H0.out.size) HN.out (HX.out.below (H0.out.mono hB))).mono ?_
  rintro e w1 ⟨rfl, hb1⟩
  have H1 := Lib.hid (belowThen H0.out hb1)
  obtain ⟨z, hz⟩ : ∃ z : Int, (ndE 47 x : Int) = z := ⟨_, rfl⟩
  have HZ := Lib.hid hz
  rw [hz]
  clear hb1 hz
  go_wp2_with fail
  go_ret
  exact ⟨ret_int HZ.out.symm, H1.out⟩

/-! ### The reference's -/
def SizeX (x : ExprD) (v : Nat) : Prop := ∀ (w : World) (B N : Nat) (cs : List Value), N ≤ 1073741824 → B ≤ w.heap.size → ExprD.At w B N x cs → Calls Tryz.prog 8 #[.agg cs.toArray] w (IntB (v : Int) w)
set_option maxRecDepth 100000 in
set_option maxHeartbeats 3200000 in
theorem size_step (f : ExprD → Nat) (x : ExprD) (hA : ∀ k (h : k < x.args.length), SizeX x.args[k] (f x.args[k])) (hF : ∀ k (h : k < x.funcs.length), SizeX x.funcs[k].body (f x.funcs[k].body))
    (ht : 1 + (x.funcs.map fun u => f u.body).sum + (x.args.map f).sum ≤ 4096) : SizeX x (1 + (x.funcs.map fun u => f u.body).sum + (x.args.map f).sum) := by
  intro w B N cs hN hB hx
  have IA := Lib.hid hA
  have IF := Lib.hid hF
  have HT := Lib.hid ht
  obtain ⟨aa, fa, ac, fc, vs, hh⟩ := hx.has
  have c15 := hh.args
  have c16 := hh.funcs
  have hal : x.args.length ≤ N := hh.own.2.2.1
  have hfl : x.funcs.length ≤ N := hh.own.2.2.2
  have HA := Lib.hid hh.atArgs
  have HU := Lib.hid hh.atFuncs
  have H0 := Lib.hid (belowBox w (.cells cs.toArray 34))
  have R0 := Lib.hid (box_at w cs 34)
  clear hh hx hA hF ht
  go_enter Tryz.func8, Tryz.ntmps8
  go_wp2_with fail
  go_simp
  go_loopw [3, 4] (fun sv i wr => ∃ (y : Int) (k : Nat), k ≤ x.args.length ∧ sv = .int .i64 y ∧ i = .int .i64 k ∧ 0 ≤ y ∧ y ≤ 4096 ∧ Hid (y = 1 + (((x.args.take k).map f).sum : Nat)) ∧ Hid (CellsAt wr w.heap.size 0 cs) ∧ Hid (Below w.heap.size w wr) ∧ Hid (w.heap.size < wr.heap.size)) (fun _ i _ => x.args.length - (intOf i).toNat)
  case atStart => exact ⟨1, 0, by omega, rfl, rfl, by omega, by omega, Lib.hid rfl, R0, H0, Lib.hid (by rw [World.size_alloc]; omega)⟩
  case round =>
    obtain ⟨w1, rfl⟩ : ∃ w1, w1 = wr := ⟨wr, rfl⟩
    clear R0 H0
    obtain ⟨y, k, hk, rfl, rfl, hy0, hy1, HY, R1, H1, HS1⟩ := hrel
    have d15 := R1.out.get0 c15
    by_cases hlt : k < x.args.length
    case pos =>
      obtain ⟨b, p, rfl, hb, hget⟩ := HA.out.get (by intro h; simp [h] at hlt)
      obtain ⟨es, g1, g2⟩ := hget k hlt
      have HB1 := Lib.hid (H1.out.mono hB)
      have HR := Lib.hid (g1.below HB1.out hb).range
      have hle := Lib.hid (show (Tryz.prog.info? 34).map (·.size) = some es.length by rw [g2.len]; exact sizeE)
      have HE := Lib.hid (g2.below HB1.out)
      obtain ⟨z, hz⟩ : ∃ z : Int, (f x.args[k] : Int) = z := ⟨_, rfl⟩
      have hnz := HT.out
      have hyv := HY.out
      have hst := sum_step f hlt
      have hsl := sum_le f x.args (k + 1)
      have hz0 : 0 ≤ z := by omega
      have hz1 : z ≤ 4096 := by omega
      have hyz : y + z ≤ 4096 := by omega
      have HZ := Lib.hid hz
      have HYN := Lib.hid (show y + z = 1 + (((x.args.take (k + 1)).map f).sum : Nat) by omega)
      clear g1 g2 hget hz hnz hyv hst hsl
      go_wp2_with (refine wpList_load_mid rfl 34 _ rfl b (p + k * 17) rfl es _ HR.out Tryz.underlying34 rfl hle.out ?_)
      refine (IA.out k hlt _ B N es hN (Nat.le_trans hB H1.out.size) HE.out).mono ?_
      rintro e w3 ⟨rfl, hb3⟩
      rw [HZ.out]
      have HB3 := Lib.hid (belowThen H1.out hb3)
      have R3 := Lib.hid (R1.out.then hb3 HS1.out)
      have hs3 := Lib.hid (Nat.lt_of_lt_of_le HS1.out hb3.size)
      clear hb3 d15
      go_wp2_with fail
      go_roundw
      case rel => exact ⟨y + z, k + 1, by omega, rfl, by go_num, by omega, by omega, HYN, R3, HB3, hs3⟩
      case measure => simp [intOf]; omega
    case neg =>
      obtain rfl : k = x.args.length := by omega
      have HYA := Lib.hid (show y = 1 + ((x.args.map f).sum : Nat) by have := HY.out; rwa [List.take_length] at this)
      go_wp2_with fail
      go_simp
      go_loopw [3, 5] (fun sv i wr => ∃ (y : Int) (k : Nat), k ≤ x.funcs.length ∧ sv = .int .i64 y ∧ i = .int .i64 k ∧ 0 ≤ y ∧ y ≤ 4096 ∧ Hid (y = 1 + ((x.args.map f).sum : Nat) + (((x.funcs.take k).map fun u => f u.body).sum : Nat)) ∧ Hid (CellsAt wr w.heap.size 0 cs) ∧ Hid (Below w.heap.size w wr) ∧ Hid (w.heap.size < wr.heap.size)) (fun _ i _ => x.funcs.length - (intOf i).toNat)
      case atStart => exact ⟨y, 0, by omega, rfl, rfl, by omega, by omega, Lib.hid (by have := HYA.out; simpa using this), R1, H1, HS1⟩
      case round =>
        obtain ⟨w1, rfl⟩ : ∃ w1, w1 = wr := ⟨wr, rfl⟩
        clear HY HYA R1 H1 HS1 d15 hy0 hy1
        obtain ⟨y, k, hk, rfl, rfl, hy0, hy1, HY, R1, H1, HS1⟩ := hrel
        have d16 := R1.out.get0 c16
        by_cases hlt : k < x.funcs.length
        case pos =>
          obtain ⟨b, p, rfl, hb, hget⟩ := HU.out.get (by intro h; simp [h] at hlt)
          obtain ⟨fs, g1, g2⟩ := hget k hlt
          obtain ⟨es, g3, g4⟩ := FuncD.At.bodyAt g1 g2
          have HB1 := Lib.hid (H1.out.mono hB)
          have HR := Lib.hid (g3.below HB1.out hb).range
          have hle := Lib.hid (show (Tryz.prog.info? 34).map (·.size) = some es.length by rw [g4.len]; exact sizeE)
          have HE := Lib.hid (g4.below HB1.out)
          obtain ⟨z, hz⟩ : ∃ z : Int, (f x.funcs[k].body : Int) = z := ⟨_, rfl⟩
          have hnz := HT.out
          have hyv := HY.out
          have hst := sum_step (fun u : FuncD => f u.body) hlt
          have hsl := sum_le (fun u : FuncD => f u.body) x.funcs (k + 1)
          have hz0 : 0 ≤ z := by omega
          have hz1 : z ≤ 4096 := by omega
          have hyz : y + z ≤ 4096 := by omega
          have HZ := Lib.hid hz
          have HYN := Lib.hid (show y + z = 1 + ((x.args.map f).sum : Nat) + (((x.funcs.take (k + 1)).map fun u => f u.body).sum : Nat) by omega)
          clear g1 g2 g3 g4 hget hz hnz hyv hst hsl
          go_wp2_with (refine wpList_load_mid rfl 34 _ rfl b (p + k * 19 + 2) rfl es _ HR.out Tryz.underlying34 rfl hle.out ?_)
          refine (IF.out k hlt _ B N es hN (Nat.le_trans hB H1.out.size) HE.out).mono ?_
          rintro e w3 ⟨rfl, hb3⟩
          rw [HZ.out]
          have HB3 := Lib.hid (belowThen H1.out hb3)
          have R3 := Lib.hid (R1.out.then hb3 HS1.out)
          have hs3 := Lib.hid (Nat.lt_of_lt_of_le HS1.out hb3.size)
          clear hb3 d16
          go_wp2_with fail
          go_roundw
          case rel => exact ⟨y + z, k + 1, by omega, rfl, by go_num, by omega, by omega, HYN, R3, HB3, hs3⟩
          case measure => simp [intOf]; omega
        case neg =>
          obtain rfl : k = x.funcs.length := by omega
          have HR := Lib.hid (show y = ((1 + (x.funcs.map fun u => f u.body).sum + (x.args.map f).sum : Nat) : Int) by have := HY.out; rw [List.take_length] at this; omega)
          go_wp2_with fail
          go_ret
          exact ⟨ret_int HR.out, H1.out⟩
theorem size_r (m : Nat) : ∀ (x : ExprD), dpE m x → ndE m x ≤ 4096 → SizeX x (ndE m x) := by
  induction m with
  | zero =>
    intro x hd hn
    obtain ⟨ha, hf⟩ := hd
    have h := size_step (fun _ => 0) x (fun k h => by rw [ha] at h; simp at h) (fun k h => by rw [hf] at h; simp at h) (by rw [ha, hf]; simp)
    rw [ha, hf] at h
    exact h
  | succ m ih =>
    intro x hd hn
    exact size_step (ndE m) x (fun k h => ih _ (hd.1 _ (List.getElem_mem h)) (by have := ndE_arg m x h; omega)) (fun k h => ih _ (hd.2 _ (List.getElem_mem h)) (by have := ndE_fun m x h; omega)) hn
end Go.Proofs.YtmbldgcbnkhabaaGreatDoor

/- The law's 'small' (datakitlaw36.small): if it says yes, no node has more arguments than 65536. -/
namespace Go.Proofs.YtmbldgcbnkhabaaGreatDoor
open Go.RowKit

def SmallE (x : ExprD) (w : World) (e : Ending) (w' : World) : Prop := ∃ k : Int, e = .returned (.int .i64 k) ∧ -1 ≤ k ∧ k ≤ 300 ∧ Hid (0 ≤ k → smlE x) ∧ Below w.heap.size w w'
set_option maxRecDepth 100000 in
set_option maxHeartbeats 3200000 in
theorem small_x (n : Nat) : ∀ (x : ExprD) (w : World) (B N : Nat) (cs : List Value) (left : Int), n ≤ 60 → 0 ≤ left → left ≤ 300 → N ≤ 1073741824 → B ≤ w.heap.size → ExprD.At w B N x cs →
    Calls Tryz.prog 4 #[.agg cs.toArray, .int .i64 left, .int .i64 n] w (SmallE x w) := by
  induction n with
  | zero =>
    intro x w B N cs left hn hl0 hl1 hN hB hx
    have H0 := Lib.hid (belowBox w (.cells cs.toArray 34))
    clear hx
    go_enter Tryz.func4, Tryz.ntmps4
    go_wp2_with fail
    go_ret
    exact ⟨_, rfl, by omega, by omega, Lib.hid (fun h => absurd h (by decide)), H0.out⟩
  | succ n ih =>
    intro x w B N cs left hn hl0 hl1 hN hB hx
    have IH := Lib.hid ih
    obtain ⟨aa, fa, ac, fc, vs, hh⟩ := hx.has
    have c15 := hh.args
    have c16 := hh.funcs
    have hal : x.args.length ≤ N := hh.own.2.2.1
    have hfl : x.funcs.length ≤ N := hh.own.2.2.2
    have HA := Lib.hid hh.atArgs
    have HU := Lib.hid hh.atFuncs
    have H0 := Lib.hid (belowBox w (.cells cs.toArray 34))
    have R0 := Lib.hid (box_at w cs 34)
    have e15 := R0.out.get0 c15
    have e16 := R0.out.get0 c16
    clear hh hx ih
    by_cases ha : left - 1 < x.args.length
    · go_enter Tryz.func4, Tryz.ntmps4
      go_wp2_with fail
      all_goals
        go_ret
        exact ⟨_, rfl, by omega, by omega, Lib.hid (fun h => absurd h (by decide)), H0.out⟩
    have ha2 : (x.args.length : Int) ≤ left - 1 := by omega
    by_cases hf : left - 1 < x.funcs.length
    · clear ha
      go_enter Tryz.func4, Tryz.ntmps4
      go_wp2_with fail
      all_goals
        go_ret
        exact ⟨_, rfl, by omega, by omega, Lib.hid (fun h => absurd h (by decide)), H0.out⟩
    have hf2 : (x.funcs.length : Int) ≤ left - 1 := by omega
    have HSM := Lib.hid (show x.args.length ≤ 65536 by omega)
    clear ha hf
    go_enter Tryz.func4, Tryz.ntmps4
    go_wp2_with fail
    all_goals first
      | (exfalso
         rename_i hh
         rcases hh with (hh | hh) | hh
         · simp at hh <;> omega
         · omega
         · omega)
      | skip
    go_simp
    go_loopw [1, 7] (fun l i wr => ∃ (y : Int) (k : Nat), k ≤ x.args.length ∧ l = .int .i64 y ∧ i = .int .i64 k ∧ -1 ≤ y ∧ y ≤ 300 ∧ Hid (0 ≤ y → ∀ j (h : j < x.args.length), j < k → smlE x.args[j]) ∧ Hid (CellsAt wr w.heap.size 0 cs) ∧ Hid (Below w.heap.size w wr) ∧ Hid (w.heap.size < wr.heap.size)) (fun _ i _ => x.args.length - (intOf i).toNat)
    case atStart => exact ⟨_, 0, by omega, rfl, rfl, by omega, by omega, Lib.hid (fun _ j _ hj => absurd hj (by omega)), R0, H0, Lib.hid (by rw [World.size_alloc]; omega)⟩
    case round =>
      obtain ⟨w1, rfl⟩ : ∃ w1, w1 = wr := ⟨wr, rfl⟩
      clear R0 H0 e15 e16
      obtain ⟨y, k, hk, rfl, rfl, hy0, hy1, HY, R1, H1, HS1⟩ := hrel
      have d15 := R1.out.get0 c15
      have hcase : (k < x.args.length ∧ 0 ≤ y) ∨ (k < x.args.length ∧ ¬ 0 ≤ y) ∨ ¬ k < x.args.length := by omega
      rcases hcase with ⟨hlt, hge⟩ | hstop
      case inl =>
        obtain ⟨b, p, rfl, hb, hget⟩ := HA.out.get (by intro h; simp [h] at hlt)
        obtain ⟨es, g1, g2⟩ := hget k hlt
        have HB1 := Lib.hid (H1.out.mono hB)
        have HR := Lib.hid (g1.below HB1.out hb).range
        have hle := Lib.hid (show (Tryz.prog.info? 34).map (·.size) = some es.length by rw [g2.len]; exact sizeE)
        have HE := Lib.hid (g2.below HB1.out)
        clear g1 g2 hget
        go_wp2_with (refine wpList_load_mid rfl 34 _ rfl b (p + k * 17) rfl es _ HR.out Tryz.underlying34 rfl hle.out ?_)
        refine (IH.out x.args[k] _ B N es y (by omega) hge hy1 hN (Nat.le_trans hB H1.out.size) HE.out).mono ?_
        rintro e w3 ⟨z, rfl, hz0, hz1, HZ, hb3⟩
        have HB3 := Lib.hid (belowThen H1.out hb3)
        have R3 := Lib.hid (R1.out.then hb3 HS1.out)
        have hs3 := Lib.hid (Nat.lt_of_lt_of_le HS1.out hb3.size)
        have HYN := Lib.hid (show 0 ≤ z → ∀ j (h : j < x.args.length), j < k + 1 → smlE x.args[j] from fun hz j hj hjk => by
          by_cases hjk2 : j = k
          · subst hjk2; exact HZ.out hz
          · exact HY.out hge j hj (by omega))
        clear hb3 d15
        go_wp2_with fail
        go_roundw
        case rel => exact ⟨z, k + 1, by omega, rfl, by go_num, hz0, hz1, HYN, R3, HB3, hs3⟩
        case measure => simp [intOf]; omega
      have HYA := Lib.hid (show 0 ≤ y → ∀ j (h : j < x.args.length), smlE x.args[j] from fun hz j hj => HY.out hz j hj (by rcases hstop with ⟨_, h⟩ | h <;> omega))
      rcases hstop with ⟨hs1, hs2⟩ | hs1
      all_goals
        go_wp2_with fail
        go_simp
        go_loopw [1, 8] (fun l i wr => ∃ (y : Int) (k : Nat), k ≤ x.funcs.length ∧ l = .int .i64 y ∧ i = .int .i64 k ∧ -1 ≤ y ∧ y ≤ 300 ∧ Hid (0 ≤ y → (∀ j (h : j < x.args.length), smlE x.args[j]) ∧ ∀ j (h : j < x.funcs.length), j < k → smlE x.funcs[j].body) ∧ Hid (CellsAt wr w.heap.size 0 cs) ∧ Hid (Below w.heap.size w wr) ∧ Hid (w.heap.size < wr.heap.size)) (fun _ i _ => x.funcs.length - (intOf i).toNat)
        case atStart => exact ⟨_, 0, by omega, rfl, rfl, by omega, by omega, Lib.hid (fun h => ⟨HYA.out h, fun j _ hj => absurd hj (by omega)⟩), R1, H1, HS1⟩
        case round =>
          obtain ⟨w1, rfl⟩ : ∃ w1, w1 = wr := ⟨wr, rfl⟩
          clear HY HYA R1 H1 HS1 d15 hy0 hy1
          obtain ⟨y, k, hk, rfl, rfl, hy0, hy1, HY, R1, H1, HS1⟩ := hrel
          have d16 := R1.out.get0 c16
          have hcase : (k < x.funcs.length ∧ 0 ≤ y) ∨ (k < x.funcs.length ∧ ¬ 0 ≤ y) ∨ ¬ k < x.funcs.length := by omega
          rcases hcase with ⟨hlt, hge⟩ | hstop
          case inl =>
            obtain ⟨b, p, rfl, hb, hget⟩ := HU.out.get (by intro h; simp [h] at hlt)
            obtain ⟨fs, g1, g2⟩ := hget k hlt
            obtain ⟨es, g3, g4⟩ := FuncD.At.bodyAt g1 g2
            have HB1 := Lib.hid (H1.out.mono hB)
            have HR := Lib.hid (g3.below HB1.out hb).range
            have hle := Lib.hid (show (Tryz.prog.info? 34).map (·.size) = some es.length by rw [g4.len]; exact sizeE)
            have HE := Lib.hid (g4.below HB1.out)
            clear g1 g2 g3 g4 hget
            go_wp2_with (refine wpList_load_mid rfl 34 _ rfl b (p + k * 19 + 2) rfl es _ HR.out Tryz.underlying34 rfl hle.out ?_)
            refine (IH.out x.funcs[k].body _ B N es y (by omega) hge hy1 hN (Nat.le_trans hB H1.out.size) HE.out).mono ?_
            rintro e w3 ⟨z, rfl, hz0, hz1, HZ, hb3⟩
            have HB3 := Lib.hid (belowThen H1.out hb3)
            have R3 := Lib.hid (R1.out.then hb3 HS1.out)
            have hs3 := Lib.hid (Nat.lt_of_lt_of_le HS1.out hb3.size)
            have HYN := Lib.hid (show 0 ≤ z → (∀ j (h : j < x.args.length), smlE x.args[j]) ∧ ∀ j (h : j < x.funcs.length), j < k + 1 → smlE x.funcs[j].body from fun hz => ⟨(HY.out hge).1, fun j hj hjk => by
              by_cases hjk2 : j = k
              · subst hjk2; exact HZ.out hz
              · exact (HY.out hge).2 j hj (by omega)⟩)
            clear hb3 d16
            go_wp2_with fail
            go_roundw
            case rel => exact ⟨z, k + 1, by omega, rfl, by go_num, hz0, hz1, HYN, R3, HB3, hs3⟩
            case measure => simp [intOf]; omega
          have HR := Lib.hid (show 0 ≤ y → smlE x from fun hz => smlE_iff.2 ⟨HSM.out, smlL_of _ (HY.out hz).1, smlF_of _ fun j hj => (HY.out hz).2 j hj (by rcases hstop with ⟨_, h⟩ | h <;> omega)⟩)
          rcases hstop with ⟨hs3, hs4⟩ | hs3
          all_goals
            go_wp2_with fail
            go_ret
            exact ⟨_, rfl, hy0, hy1, HR, H1.out⟩
end Go.Proofs.YtmbldgcbnkhabaaGreatDoor
