/- The program's walker: module.walker.body. -/
import Derived.Test.YtfegnmbdgdjkgaaGreatWlk38
namespace Go.Proofs.YtfegnmbdgdjkgaaGreat
open Go.RowKit

def zeroFl : List Value := [.string ⟨#[]⟩, .slice none 0 0, .int .i64 0, .string ⟨#[]⟩, .int .i64 0, .bool false, .bool false, .string ⟨#[]⟩, .int .i64 0, .int .i64 0, .int .i64 0, .int .i64 0, .int .i64 0, .string ⟨#[]⟩, .slice none 0 0, .slice none 0 0, .slice none 0 0, .slice none 0 0, .slice none 0 0]
def BodR (mb : Nat) (l : List ByteArray) (w : World) (e : Ending) (w' : World) : Prop := ∃ rs : List Value, e = .returned (.tuple #[.agg rs.toArray, .int .i64 0]) ∧ rs.length = 19 ∧ rs.toArray.all (·.oneCell') = true ∧ SetH w' mb l ∧ FB mb w w'
theorem fold_zip_by (d : Nat) : ∀ (cs : List Value) (n : Nat) (Z : Array Value), List.foldl (fun (a : Array Value) (x : Value × Nat) => a.setIfInBounds (d + x.2) x.1) Z (cs.zipIdx n) = List.foldl (fun (a : Array Value) (x : Value × Nat) => a.setIfInBounds x.2 x.1) Z (cs.zipIdx (d + n))
  | [], _, _ => rfl
  | c :: cs, n, Z => by
    rw [List.zipIdx_cons, List.zipIdx_cons, List.foldl_cons, List.foldl_cons, fold_zip_by d cs (n + 1)]
    rfl
theorem fold_fn (nm : ByteArray) (a : Option Addr) (n c : Nat) (cs : List Value) (h : cs.length = 17) : List.foldl (fun (a : Array Value) (x : Value × Nat) => a.setIfInBounds (2 + x.2) x.1) #[.string nm, .slice a n c, .int .i64 0, .string ⟨#[]⟩, .int .i64 0, .bool false, .bool false, .string ⟨#[]⟩, .int .i64 0, .int .i64 0, .int .i64 0, .int .i64 0, .int .i64 0, .string ⟨#[]⟩, .slice none 0 0, .slice none 0 0, .slice none 0 0, .slice none 0 0, .slice none 0 0] cs.zipIdx = (.string nm :: .slice a n c :: cs).toArray := by
  rw [fold_zip_by 2, fold_zip cs 2 _ (by rw [h]; rfl)]
  rfl
set_option maxRecDepth 100000 in
set_option maxHeartbeats 6400000 in
theorem bod_p (sb mb : Nat) (F : List ByteArray → List ByteArray) (n K : Nat) (y : FuncD) (hbd : WlkX sb mb y.body F n K) (w : World) (lo B B1 N C : Nat) (fs : List Value) (d : ScD) (cs1 : List Value) (l : List ByteArray)
    (hN : N ≤ 1048576) (hC : C + N + K ≤ 134217728) (hn : l.length + n ≤ 65536) (hB : B ≤ w.heap.size) (hB1 : B1 ≤ mb) (hG : 0 < mb) (hlo1 : mb < lo) (hlo2 : lo ≤ w.heap.size) (hsb : sb ≠ mb) (hM : MaxC w) (hcell : w.cell? ⟨sb, 0, none⟩ = some (.map (some mb)))
    (hS : SetH w mb l) (hd : ScD.At w lo B C d cs1) (hy : FuncD.At w B1 N y fs) :
    Calls Tryz.prog 23 #[.agg (wlkC sb).toArray, .agg fs.toArray, .agg cs1.toArray] w (BodR mb (l ++ F (d.vs ++ pvars y.params)) w) := by
  have IH := Lib.hid hbd
  have HM := Lib.hid hM
  have HS := Lib.hid hS
  have HD := Lib.hid hd
  have HCL := Lib.hid hcell
  have HSB := Lib.hid (World.block_lt_of_cell? w _ hcell)
  have HMB := Lib.hid hS.lt
  have hsz := Lib.hid (show (Tryz.prog.info? 54).map (·.size) = some cs1.length by rw [hd.len]; kernel_rfl)
  have hsf := Lib.hid (show (Tryz.prog.info? 62).map (·.size) = some fs.length by rw [hy.len]; exact sizeFN)
  have hsw := Lib.hid (show (Tryz.prog.info? 48).map (·.size) = some (wlkC sb).length by kernel_rfl)
  obtain ⟨pa, pc, es, hh⟩ := hy.has
  have c0 := hh.name
  have c1 := hh.params
  have hpl : y.params.length ≤ N := hh.hp
  have HES := Lib.hid (show (fs.drop 2).take 17 = es by rw [hh.body, List.take_of_length_le (by rw [hh.atBody.len]; exact Nat.le_refl _)])
  have hse := Lib.hid (show (Tryz.prog.info? 34).map (·.size) = some es.length by rw [hh.atBody.len]; exact sizeE)
  have HP := Lib.hid hh.atPar
  have HE := Lib.hid hh.atBody
  have I0 := Lib.hid (VisI.start sb mb w fs cs1 zeroFl 62)
  have HKD := Lib.hid (show ∀ u, FBB w.heap.size mb w u → ScD.At u lo u.heap.size C d cs1 from fun u h => (HD.out.keep (h.kept hlo1 hB)).mono (Nat.le_trans hB h.size) (Nat.le_refl _))
  have HKE := Lib.hid (show ∀ u, FBB w.heap.size mb w u → ExprD.At u B1 N y.body es from fun u h => ExprD.At.below (h.below hB1 (by have := HMB.out; omega)) _ HE.out)
  have HKP := Lib.hid (show ∀ u, FBB w.heap.size mb w u → ParamsAt u B1 N y.params pa from fun u h => ParamsAt.below (h.below hB1 (by have := HMB.out; omega)) _ HP.out)
  have HKM := Lib.hid (show ∀ u, FBB w.heap.size mb w u → MaxC u from fun u h => HM.out.fb hG h.fb)
  have HKC := Lib.hid (show ∀ u, FBB w.heap.size mb w u → u.cell? ⟨sb, 0, none⟩ = some (.map (some mb)) from fun u h => (h.cell HSB.out hsb).trans HCL.out)
  have S0 := Lib.hid (HS.out.later (visNew sb w fs cs1 zeroFl 62))
  clear hh hy hbd hM hS hd hcell
  go_enter Tryz.func23, Tryz.ntmps23
  go_wp2_with fail
  obtain ⟨w1, hw1⟩ : ∃ w1, w1 = ((((w.alloc (.cells (wlkC sb).toArray 48)).alloc (.cells fs.toArray 62)).alloc (.cells cs1.toArray 54)).alloc (.cells #[.string ⟨#[]⟩, .slice none 0 0, .int .i64 0, .string ⟨#[]⟩, .int .i64 0, .bool false, .bool false, .string ⟨#[]⟩, .int .i64 0, .int .i64 0, .int .i64 0, .int .i64 0, .int .i64 0, .string ⟨#[]⟩, .slice none 0 0, .slice none 0 0, .slice none 0 0, .slice none 0 0, .slice none 0 0] 62)) := ⟨_, rfl⟩
  have I1 := Lib.hid (show VisI sb mb w w1 fs cs1 zeroFl 62 by rw [hw1]; exact I0.out)
  have S1 := Lib.hid (show SetH w1 mb l by rw [hw1]; exact S0.out)
  rw [← hw1]
  clear hw1 I0 S0
  have R0 := Lib.hid (RegI.start HMB.out I1.out S1.out)
  refine wp_region_held_drew (S := fun u => VisI sb mb w u fs cs1 zeroFl 62) (by kernel_rfl) R0.out.vis (fun hHeld => ?_)
  refine' wpAnyH_takeT (i := 0) (v := _) _ rfl rfl (by kernel_rfl) (by kernel_rfl) (by kernel_rfl) (fun _ _ _ h => h) (yieldsIf_load_mid (by kernel_rfl) 48 _ rfl (w.heap.size) 0 rfl (wlkC sb) _ (fun u hu => hu.r1.range) Tryz.underlying48 rfl hsw.out) hHeld ?_
  simp only [List.set_cons_succ, List.set_cons_zero]
  refine' wpAnyH_takeT (i := 1) (v := .pointer (some ⟨w.heap.size + 1, 2, none⟩)) _ rfl rfl (by kernel_rfl) (by kernel_rfl) (by kernel_rfl) (fun _ _ _ h => h) (.inl ⟨by rfl, fun u hu => (by go_simp)⟩) hHeld ?_
  simp only [List.set_cons_succ, List.set_cons_zero]
  refine' wpAnyH_takeT (i := 2) (v := _) _ rfl rfl (by kernel_rfl) (by kernel_rfl) (by kernel_rfl) (fun _ _ _ h => h) (yieldsIf_load_mid (by kernel_rfl) 34 _ rfl (w.heap.size + 1) 2 rfl es _ (fun u hu => hu.r2.part HES.out) Tryz.underlying34 rfl hse.out) hHeld ?_
  simp only [List.set_cons_succ, List.set_cons_zero]
  refine' wpAnyH_takeT (i := 3) (v := _) _ rfl rfl (by kernel_rfl) (by kernel_rfl) (by kernel_rfl) (fun _ _ _ h => h) (yieldsIf_load_mid (by kernel_rfl) 54 _ rfl (w.heap.size + 2) 0 rfl cs1 _ (fun u hu => hu.range) Tryz.underlying54 rfl hsz.out) hHeld ?_
  simp only [List.set_cons_succ, List.set_cons_zero]
  refine' wpAnyH_takeT (i := 4) (v := .pointer (some ⟨w.heap.size + 1, 1, none⟩)) _ rfl rfl (by kernel_rfl) (by kernel_rfl) (by kernel_rfl) (fun _ _ _ h => h) (.inl ⟨by rfl, fun u hu => (by go_simp)⟩) hHeld ?_
  simp only [List.set_cons_succ, List.set_cons_zero]
  refine' wpAnyH_takeT (i := 5) (v := .slice pa y.params.length pc) _ rfl rfl (by kernel_rfl) (by kernel_rfl) (by kernel_rfl) (fun _ _ _ h => h) (.inl ⟨by rfl, fun u hu => (by have hc := hu.r2.get0 c1; go_simp)⟩) hHeld ?_
  simp only [List.set_cons_succ, List.set_cons_zero]
  refine wpAnyH_ready (rs := [6, 11]) (by kernel_rfl) (by simp) ?_
  refine AllReadyH.cons rfl (fun K hK => ?_) (AllReadyH.cons rfl (fun K hK => ?_) AllReadyH.nil)
  case' refine_1 =>
    go_simp
    refine (params_p y.params pa pc d cs1 _ lo _ C N (by omega) (by omega) hpl (Nat.le_refl _) (Nat.le_trans hlo2 R0.out.vis.fb.size) (HKD.out _ R0.out.vis.fb) (ParamsAt.mono (Nat.le_trans (Nat.le_of_lt (Nat.lt_of_le_of_lt hB1 HMB.out)) R0.out.vis.fb.size) _ (HKP.out _ R0.out.vis.fb))).mono ?_
    rintro e uX ⟨d2, cs2, hv2, rfl, hs2, hbX⟩
    have HV2 := Lib.hid hv2
    have S2 := Lib.hid hs2
    have HbX := Lib.hid hbX
    have RX := Lib.hid (R0.out.below HMB.out hbX)
    refine hK.out _ _ RX.out.vis (fun hHeld => ?_)
    clear hK K hbX hs2 hv2
    refine wpAnyH_ready (rs := [7, 11]) (by kernel_rfl) (by simp) ?_
    refine AllReadyH.cons rfl (fun K hK => ?_) (AllReadyH.cons rfl (fun K hK => ?_) AllReadyH.nil)
  case' refine_1.refine_1 =>
    go_simp
    refine (IH.out _ lo _ B1 N _ es d2 cs2 l hN (by omega) hn (Nat.le_refl _) hB1 hG hlo1 (Nat.le_trans hlo2 RX.out.vis.fb.size) hsb (HKM.out _ RX.out.vis.fb) (HKC.out _ RX.out.vis.fb) RX.out.set S2.out (HKE.out _ RX.out.vis.fb)).mono ?_
    rintro e uV ⟨rs5, rfl, hl5, ho5, hs5, hf5⟩
    have RV := Lib.hid (RX.out.went HMB.out hf5 hs5)
    have HO5 := Lib.hid ho5
    refine hK.out _ _ RV.out.vis (fun hHeld => ?_)
    clear hK K hs5 hf5 ho5
    refine' wpAnyH_takeT (i := 8) (v := .tuple #[.agg rs5.toArray, .int .i64 0]) _ rfl rfl (by kernel_rfl) (by kernel_rfl) (by kernel_rfl) (fun _ _ _ h => h) (.inl ⟨by rfl, fun u hu => (by go_simp)⟩) hHeld ?_
    simp only [List.set_cons_succ, List.set_cons_zero]
    refine' wpAnyH_takeT (i := 9) (v := .agg rs5.toArray) _ rfl rfl (by kernel_rfl) (by kernel_rfl) (by kernel_rfl) (fun _ _ _ h => h) (.inl ⟨by rfl, fun u hu => (by go_simp)⟩) hHeld ?_
    simp only [List.set_cons_succ, List.set_cons_zero]
    refine' wpAnyH_takeT (i := 10) (v := .int .i64 0) _ rfl rfl (by kernel_rfl) (by kernel_rfl) (by kernel_rfl) (fun _ _ _ h => h) (.inl ⟨by rfl, fun u hu => (by go_simp)⟩) hHeld ?_
    simp only [List.set_cons_succ, List.set_cons_zero]
    refine wpAnyH_ready (rs := [11]) (by kernel_rfl) (by simp) ?_
    refine AllReadyH.cons rfl (fun K hK => ?_) AllReadyH.nil
    go_simp
    obtain ⟨uA, huA⟩ : ∃ uA, uA = uV.alloc (.cells #[.int .i64 0, .string ⟨#[]⟩, .int .i64 0, .bool false, .bool false, .string ⟨#[]⟩, .int .i64 0, .int .i64 0, .int .i64 0, .int .i64 0, .int .i64 0, .string ⟨#[]⟩, .slice none 0 0, .slice none 0 0, .slice none 0 0, .slice none 0 0, .slice none 0 0] 34) := ⟨_, rfl⟩
    rw [← huA]
    have HbA := Lib.hid (show Below uV.heap.size uV uA by rw [huA]; exact belowBox uV _)
    have ZA := Lib.hid (show uA.heap[uV.heap.size]? = some (.cells #[.int .i64 0, .string ⟨#[]⟩, .int .i64 0, .bool false, .bool false, .string ⟨#[]⟩, .int .i64 0, .int .i64 0, .int .i64 0, .int .i64 0, .int .i64 0, .string ⟨#[]⟩, .slice none 0 0, .slice none 0 0, .slice none 0 0, .slice none 0 0, .slice none 0 0] 34 (0, 0)) by rw [huA]; exact heap_alloc_new uV _)
    have hqa : w.heap.size + 4 ≤ uV.heap.size := RV.out.vis.size
    have hqb : w1.heap.size ≤ uV.heap.size := RV.out.fb.size
    have RA := Lib.hid (RV.out.below HMB.out HbA.out)
    obtain ⟨q5, hq5⟩ : ∃ q5, q5 = uV.heap.size := ⟨_, rfl⟩
    rw [← hq5] at ZA hqa hqb ⊢
    refine hK.out _ _ RA.out.vis (fun hHeld => ?_)
    clear hK K huA hq5
    refine wpAnyH_ready (rs := [12]) (by kernel_rfl) (by simp) ?_
    refine AllReadyH.cons rfl (fun K hK => ?_) AllReadyH.nil
    rw [if_pos (by kernel_rfl)]
    refine wp_store_row 34 _ _ rfl q5 rs5.toArray rfl rfl 34 _ ZA.out (by rw [List.size_toArray, hl5]; exact sizeE) (show 17 = rs5.toArray.size by rw [List.size_toArray, hl5]) HO5.out ?_
    simp only [List.getElem_toArray, List.getElem_cons_succ, List.getElem_cons_zero, Act.put]
    have R5 := Lib.hid (RA.out.setRow HMB.out hqa hqb rs5.toArray)
    have Z5 := Lib.hid (setRow_heap _ q5 _ rs5.toArray _ _ ZA.out)
    obtain ⟨u5, hu5⟩ : ∃ u5, u5 = World.setRow uA q5 rs5.toArray := ⟨_, rfl⟩
    rw [← hu5] at R5 Z5 ⊢
    refine hK.out _ _ R5.out.vis (fun hHeld => ?_)
    clear hK K hu5
    refine wpAnyH_ready (rs := [13]) (by kernel_rfl) (by simp) ?_
    refine AllReadyH.cons rfl (fun K hK => ?_) AllReadyH.nil
    go_simp
    refine hK.out _ _ R5.out.vis (fun hHeldx => ?_)
    clear hK K hHeldx
    refine wpAnyH_done (by kernel_rfl) ?_ _
  case' refine_1.refine_2 =>
    go_simp
    obtain ⟨uA, huA⟩ : ∃ uA, uA = uX.alloc (.cells #[.int .i64 0, .string ⟨#[]⟩, .int .i64 0, .bool false, .bool false, .string ⟨#[]⟩, .int .i64 0, .int .i64 0, .int .i64 0, .int .i64 0, .int .i64 0, .string ⟨#[]⟩, .slice none 0 0, .slice none 0 0, .slice none 0 0, .slice none 0 0, .slice none 0 0] 34) := ⟨_, rfl⟩
    rw [← huA]
    have HbA := Lib.hid (show Below uX.heap.size uX uA by rw [huA]; exact belowBox uX _)
    have ZA := Lib.hid (show uA.heap[uX.heap.size]? = some (.cells #[.int .i64 0, .string ⟨#[]⟩, .int .i64 0, .bool false, .bool false, .string ⟨#[]⟩, .int .i64 0, .int .i64 0, .int .i64 0, .int .i64 0, .int .i64 0, .string ⟨#[]⟩, .slice none 0 0, .slice none 0 0, .slice none 0 0, .slice none 0 0, .slice none 0 0] 34 (0, 0)) by rw [huA]; exact heap_alloc_new uX _)
    have RA := Lib.hid (RX.out.below HMB.out HbA.out)
    obtain ⟨q5, hq5⟩ : ∃ q5, q5 = uX.heap.size := ⟨_, rfl⟩
    have hqa : w.heap.size + 4 ≤ q5 := by rw [hq5]; exact RX.out.vis.size
    have hqb : w1.heap.size ≤ q5 := by rw [hq5]; exact RX.out.fb.size
    rw [← hq5] at ZA ⊢
    have S3 := Lib.hid ((S2.out.keep (Kept.of_below HbA.out)).mono HbA.out.size (Nat.le_refl _))
    refine hK.out _ _ RA.out.vis (fun hHeld => ?_)
    clear hK K huA hq5
    refine wpAnyH_ready (rs := [7]) (by kernel_rfl) (by simp) ?_
    refine AllReadyH.cons rfl (fun K hK => ?_) AllReadyH.nil
    go_simp
    refine (IH.out _ lo _ B1 N _ es d2 cs2 l hN (by omega) hn (Nat.le_refl _) hB1 hG hlo1 (Nat.le_trans hlo2 RA.out.vis.fb.size) hsb (HKM.out _ RA.out.vis.fb) (HKC.out _ RA.out.vis.fb) RA.out.set S3.out (HKE.out _ RA.out.vis.fb)).mono ?_
    rintro e uV ⟨rs5, rfl, hl5, ho5, hs5, hf5⟩
    have RV := Lib.hid (RA.out.went HMB.out hf5 hs5)
    have ZV := Lib.hid ((hf5.block q5 (Array.getElem?_eq_some_iff.1 ZA.out).1 (by have := HMB.out; omega)).trans ZA.out)
    have HO5 := Lib.hid ho5
    refine hK.out _ _ RV.out.vis (fun hHeld => ?_)
    clear hK K hs5 hf5 ho5
    refine' wpAnyH_takeT (i := 8) (v := .tuple #[.agg rs5.toArray, .int .i64 0]) _ rfl rfl (by kernel_rfl) (by kernel_rfl) (by kernel_rfl) (fun _ _ _ h => h) (.inl ⟨by rfl, fun u hu => (by go_simp)⟩) hHeld ?_
    simp only [List.set_cons_succ, List.set_cons_zero]
    refine' wpAnyH_takeT (i := 9) (v := .agg rs5.toArray) _ rfl rfl (by kernel_rfl) (by kernel_rfl) (by kernel_rfl) (fun _ _ _ h => h) (.inl ⟨by rfl, fun u hu => (by go_simp)⟩) hHeld ?_
    simp only [List.set_cons_succ, List.set_cons_zero]
    refine' wpAnyH_takeT (i := 10) (v := .int .i64 0) _ rfl rfl (by kernel_rfl) (by kernel_rfl) (by kernel_rfl) (fun _ _ _ h => h) (.inl ⟨by rfl, fun u hu => (by go_simp)⟩) hHeld ?_
    simp only [List.set_cons_succ, List.set_cons_zero]
    refine wpAnyH_ready (rs := [12]) (by kernel_rfl) (by simp) ?_
    refine AllReadyH.cons rfl (fun K hK => ?_) AllReadyH.nil
    rw [if_pos (by kernel_rfl)]
    refine wp_store_row 34 _ _ rfl q5 rs5.toArray rfl rfl 34 _ ZV.out (by rw [List.size_toArray, hl5]; exact sizeE) (show 17 = rs5.toArray.size by rw [List.size_toArray, hl5]) HO5.out ?_
    simp only [List.getElem_toArray, List.getElem_cons_succ, List.getElem_cons_zero, Act.put]
    have R5 := Lib.hid (RV.out.setRow HMB.out hqa hqb rs5.toArray)
    have Z5 := Lib.hid (setRow_heap _ q5 _ rs5.toArray _ _ ZV.out)
    obtain ⟨u5, hu5⟩ : ∃ u5, u5 = World.setRow uV q5 rs5.toArray := ⟨_, rfl⟩
    rw [← hu5] at R5 Z5 ⊢
    refine hK.out _ _ R5.out.vis (fun hHeld => ?_)
    clear hK K hu5
    refine wpAnyH_ready (rs := [13]) (by kernel_rfl) (by simp) ?_
    refine AllReadyH.cons rfl (fun K hK => ?_) AllReadyH.nil
    go_simp
    refine hK.out _ _ R5.out.vis (fun hHeldx => ?_)
    clear hK K hHeldx
    refine wpAnyH_done (by kernel_rfl) ?_ _
  case' refine_2 =>
    go_simp
    obtain ⟨uA, huA⟩ : ∃ uA, uA = (w1.alloc (.cells #[.int .i64 0, .string ⟨#[]⟩, .int .i64 0, .bool false, .bool false, .string ⟨#[]⟩, .int .i64 0, .int .i64 0, .int .i64 0, .int .i64 0, .int .i64 0, .string ⟨#[]⟩, .slice none 0 0, .slice none 0 0, .slice none 0 0, .slice none 0 0, .slice none 0 0] 34)).drew := ⟨_, rfl⟩
    rw [← huA]
    have HbA := Lib.hid (show Below w1.drew.heap.size w1.drew uA by rw [huA]; exact belowBox w1.drew _)
    have ZA := Lib.hid (show uA.heap[w1.heap.size]? = some (.cells #[.int .i64 0, .string ⟨#[]⟩, .int .i64 0, .bool false, .bool false, .string ⟨#[]⟩, .int .i64 0, .int .i64 0, .int .i64 0, .int .i64 0, .int .i64 0, .string ⟨#[]⟩, .slice none 0 0, .slice none 0 0, .slice none 0 0, .slice none 0 0, .slice none 0 0] 34 (0, 0)) by rw [huA]; exact heap_alloc_new w1 _)
    have RA := Lib.hid (R0.out.below HMB.out HbA.out)
    obtain ⟨q5, hq5⟩ : ∃ q5, q5 = w1.heap.size := ⟨_, rfl⟩
    have hqa : w.heap.size + 4 ≤ q5 := by rw [hq5]; exact R0.out.vis.size
    have hqb : w1.heap.size ≤ q5 := by rw [hq5]; exact R0.out.fb.size
    rw [← hq5] at ZA ⊢
    refine hK.out _ _ RA.out.vis (fun hHeld => ?_)
    clear hK K huA hq5
    refine wpAnyH_ready (rs := [6]) (by kernel_rfl) (by simp) ?_
    refine AllReadyH.cons rfl (fun K hK => ?_) AllReadyH.nil
    go_simp
    refine (params_p y.params pa pc d cs1 _ lo _ C N (by omega) (by omega) hpl (Nat.le_refl _) (Nat.le_trans hlo2 RA.out.vis.fb.size) (HKD.out _ RA.out.vis.fb) (ParamsAt.mono (Nat.le_trans (Nat.le_of_lt (Nat.lt_of_le_of_lt hB1 HMB.out)) RA.out.vis.fb.size) _ (HKP.out _ RA.out.vis.fb))).mono ?_
    rintro e uX ⟨d2, cs2, hv2, rfl, hs2, hbX⟩
    have HV2 := Lib.hid hv2
    have S2 := Lib.hid hs2
    have HbX := Lib.hid hbX
    have RX := Lib.hid (RA.out.below HMB.out hbX)
    have ZX := Lib.hid ((HbX.out.block _ (Array.getElem?_eq_some_iff.1 ZA.out).1).trans ZA.out)
    refine hK.out _ _ RX.out.vis (fun hHeld => ?_)
    clear hK K hbX hs2 hv2
    refine wpAnyH_ready (rs := [7]) (by kernel_rfl) (by simp) ?_
    refine AllReadyH.cons rfl (fun K hK => ?_) AllReadyH.nil
    go_simp
    refine (IH.out _ lo _ B1 N _ es d2 cs2 l hN (by omega) hn (Nat.le_refl _) hB1 hG hlo1 (Nat.le_trans hlo2 RX.out.vis.fb.size) hsb (HKM.out _ RX.out.vis.fb) (HKC.out _ RX.out.vis.fb) RX.out.set S2.out (HKE.out _ RX.out.vis.fb)).mono ?_
    rintro e uV ⟨rs5, rfl, hl5, ho5, hs5, hf5⟩
    have RV := Lib.hid (RX.out.went HMB.out hf5 hs5)
    have ZV := Lib.hid ((hf5.block q5 (Array.getElem?_eq_some_iff.1 ZX.out).1 (by have := HMB.out; omega)).trans ZX.out)
    have HO5 := Lib.hid ho5
    refine hK.out _ _ RV.out.vis (fun hHeld => ?_)
    clear hK K hs5 hf5 ho5
    refine' wpAnyH_takeT (i := 8) (v := .tuple #[.agg rs5.toArray, .int .i64 0]) _ rfl rfl (by kernel_rfl) (by kernel_rfl) (by kernel_rfl) (fun _ _ _ h => h) (.inl ⟨by rfl, fun u hu => (by go_simp)⟩) hHeld ?_
    simp only [List.set_cons_succ, List.set_cons_zero]
    refine' wpAnyH_takeT (i := 9) (v := .agg rs5.toArray) _ rfl rfl (by kernel_rfl) (by kernel_rfl) (by kernel_rfl) (fun _ _ _ h => h) (.inl ⟨by rfl, fun u hu => (by go_simp)⟩) hHeld ?_
    simp only [List.set_cons_succ, List.set_cons_zero]
    refine' wpAnyH_takeT (i := 10) (v := .int .i64 0) _ rfl rfl (by kernel_rfl) (by kernel_rfl) (by kernel_rfl) (fun _ _ _ h => h) (.inl ⟨by rfl, fun u hu => (by go_simp)⟩) hHeld ?_
    simp only [List.set_cons_succ, List.set_cons_zero]
    refine wpAnyH_ready (rs := [12]) (by kernel_rfl) (by simp) ?_
    refine AllReadyH.cons rfl (fun K hK => ?_) AllReadyH.nil
    rw [if_pos (by kernel_rfl)]
    refine wp_store_row 34 _ _ rfl q5 rs5.toArray rfl rfl 34 _ ZV.out (by rw [List.size_toArray, hl5]; exact sizeE) (show 17 = rs5.toArray.size by rw [List.size_toArray, hl5]) HO5.out ?_
    simp only [List.getElem_toArray, List.getElem_cons_succ, List.getElem_cons_zero, Act.put]
    have R5 := Lib.hid (RV.out.setRow HMB.out hqa hqb rs5.toArray)
    have Z5 := Lib.hid (setRow_heap _ q5 _ rs5.toArray _ _ ZV.out)
    obtain ⟨u5, hu5⟩ : ∃ u5, u5 = World.setRow uV q5 rs5.toArray := ⟨_, rfl⟩
    rw [← hu5] at R5 Z5 ⊢
    refine hK.out _ _ R5.out.vis (fun hHeld => ?_)
    clear hK K hu5
    refine wpAnyH_ready (rs := [13]) (by kernel_rfl) (by simp) ?_
    refine AllReadyH.cons rfl (fun K hK => ?_) AllReadyH.nil
    go_simp
    refine hK.out _ _ R5.out.vis (fun hHeldx => ?_)
    clear hK K hHeldx
    refine wpAnyH_done (by kernel_rfl) ?_ _
  all_goals
    go_wp2_with fail
    have HL5 := Lib.hid hl5
    have HPP := Lib.hid (Nat.le_trans hpl hN)
    have HB5 := Lib.hid (show B1 ≤ u5.drew.heap.size from Nat.le_trans (Nat.le_of_lt (Nat.lt_of_le_of_lt hB1 HMB.out)) R5.out.vis.fb.size)
    have hz5 := Lib.hid (show (Tryz.prog.info? 34).map (·.size) = some rs5.length by rw [hl5]; exact sizeE)
    have hlq := Lib.hid (Array.getElem?_eq_some_iff.1 Z5.out).1
    have HVV := Lib.hid (show l ++ F d2.vs = l ++ F (d.vs ++ pvars y.params) by rw [HV2.out])
    clear hHeld
    refine wp_region_held_drew (S := fun u => CellsAt u (w.heap.size + 1) 0 fs ∧ u.heap[q5]? = some (.cells rs5.toArray 34 (0, 0))) (by kernel_rfl) ⟨R5.out.vis.r2, Z5.out⟩ (fun hHeld => ?_)
    refine' wpAnyH_takeT (i := 0) (v := .pointer (some ⟨w.heap.size + 1, 0, none⟩)) _ rfl rfl (by kernel_rfl) (by kernel_rfl) (by kernel_rfl) (fun _ _ _ h => h) (.inl ⟨by rfl, fun u hu => (by go_simp)⟩) hHeld ?_
    simp only [List.set_cons_succ, List.set_cons_zero]
    refine' wpAnyH_takeT (i := 1) (v := .string y.name) _ rfl rfl (by kernel_rfl) (by kernel_rfl) (by kernel_rfl) (fun _ _ _ h => h) (.inl ⟨by rfl, fun u hu => (by have hc := hu.1.get0 c0; go_simp)⟩) hHeld ?_
    simp only [List.set_cons_succ, List.set_cons_zero]
    refine' wpAnyH_takeT (i := 2) (v := .pointer (some ⟨w.heap.size + 1, 1, none⟩)) _ rfl rfl (by kernel_rfl) (by kernel_rfl) (by kernel_rfl) (fun _ _ _ h => h) (.inl ⟨by rfl, fun u hu => (by go_simp)⟩) hHeld ?_
    simp only [List.set_cons_succ, List.set_cons_zero]
    refine' wpAnyH_takeT (i := 3) (v := .slice pa y.params.length pc) _ rfl rfl (by kernel_rfl) (by kernel_rfl) (by kernel_rfl) (fun _ _ _ h => h) (.inl ⟨by rfl, fun u hu => (by have hc := hu.1.get0 c1; go_simp)⟩) hHeld ?_
    simp only [List.set_cons_succ, List.set_cons_zero]
    refine' wpAnyH_takeT (i := 5) (v := _) _ rfl rfl (by kernel_rfl) (by kernel_rfl) (by kernel_rfl) (fun _ _ _ h => h) (yieldsIf_load_mid (by kernel_rfl) 34 _ rfl (q5) 0 rfl rs5 _ (fun u hu => row_range hu.2) Tryz.underlying34 rfl hz5.out) hHeld ?_
    simp only [List.set_cons_succ, List.set_cons_zero]
    refine wpAnyH_ready (rs := [4]) (by kernel_rfl) (by simp) ?_
    refine AllReadyH.cons rfl (fun K hK => ?_) AllReadyH.nil
    go_simp
    refine (clone_par y.params pa pc _ B1 N (by have := HPP.out; omega) HB5.out (HKP.out _ (R5.out.below HMB.out (drewW u5)).vis.fb)).mono ?_
    rintro e u6 ⟨a6, n6, c6, rfl, hb6⟩
    have R6 := Lib.hid ((R5.out.below HMB.out (drewW u5)).below HMB.out hb6)
    have Z6 := Lib.hid ((hb6.block _ hlq.out).trans Z5.out)
    refine hK.out _ _ ⟨R6.out.vis.r2, Z6.out⟩ (fun hHeld1 => ?_)
    clear hK K hHeld hb6
    have hfz := fold_fn y.name a6 n6 c6 rs5 HL5.out
    refine' wpAnyH_takeT (i := 6) (v := .agg (Value.string y.name :: .slice a6 n6 c6 :: rs5).toArray) _ rfl rfl (by kernel_rfl) (by kernel_rfl) (by kernel_rfl) (fun _ _ _ h => h) (.inl ⟨by rfl, fun u hu => (by go_simp)⟩) hHeld1 ?_
    simp only [List.set_cons_succ, List.set_cons_zero]
    refine wpAnyH_ready (rs := [7]) (by kernel_rfl) (by simp) ?_
    refine AllReadyH.cons rfl (fun K hK => ?_) AllReadyH.nil
    rw [if_pos (by kernel_rfl)]
    have hsz9 : (Tryz.prog.info? 62).map (·.size) = some (Value.string y.name :: .slice a6 n6 c6 :: rs5).toArray.size := by rw [List.size_toArray, List.length_cons, List.length_cons, HL5.out]; exact sizeFN
    have hon9 : (Value.string y.name :: .slice a6 n6 c6 :: rs5).toArray.all (·.oneCell') = true := by
      refine Go.all_oneCell_toArray (fun u hu => ?_)
      rcases List.mem_cons.1 hu with rfl | hu
      · rfl
      · rcases List.mem_cons.1 hu with rfl | hu
        · rfl
        · exact (List.all_eq_true.1 (by simpa using HO5.out)) u hu
    refine wp_store_row 62 _ _ rfl (w.heap.size + 1 + 1 + 1) (Value.string y.name :: .slice a6 n6 c6 :: rs5).toArray rfl rfl 62 _ R6.out.vis.out hsz9 (show 19 = (Value.string y.name :: .slice a6 n6 c6 :: rs5).toArray.size by rw [List.size_toArray, List.length_cons, List.length_cons, HL5.out]) hon9 ?_
    simp only [List.getElem_toArray, List.getElem_cons_succ, List.getElem_cons_zero, Act.put]
    have Z7 := Lib.hid (setRow_heap u6 (w.heap.size + 3) _ (Value.string y.name :: .slice a6 n6 c6 :: rs5).toArray _ _ R6.out.vis.out)
    have R7 := Lib.hid (show CellsAt (u6.setRow (w.heap.size + 3) (Value.string y.name :: .slice a6 n6 c6 :: rs5).toArray) (w.heap.size + 1) 0 fs ∧ (u6.setRow (w.heap.size + 3) (Value.string y.name :: .slice a6 n6 c6 :: rs5).toArray).heap[q5]? = some (.cells rs5.toArray 34 (0, 0)) from
      ⟨(FBB.setRow (B := w.heap.size + 2) (mb := mb) u6 _ (by omega)).cells R6.out.vis.r2 (by omega) (by have := HMB.out; omega), (setRow_other _ _ _ _ (by omega)).trans Z6.out⟩)
    have HF7 := Lib.hid (show FB mb w (u6.setRow (w.heap.size + 3) (Value.string y.name :: .slice a6 n6 c6 :: rs5).toArray) from FBB.fb (R6.out.vis.fb.trans (FBB.setRow _ _ (by omega))))
    have HS7 := Lib.hid (R6.out.set.block (setRow_other u6 (w.heap.size + 3) mb (Value.string y.name :: .slice a6 n6 c6 :: rs5).toArray (by have := HMB.out; omega)))
    refine hK.out _ _ R7.out (fun hHeldx => ?_)
    clear hK K hHeldx hHeld1 hfz
    refine wpAnyH_ready (rs := [8]) (by kernel_rfl) (by simp) ?_
    refine AllReadyH.cons rfl (fun K hK => ?_) AllReadyH.nil
    go_simp
    refine hK.out _ _ R7.out (fun hHeldx => ?_)
    clear hK K hHeldx
    refine wpAnyH_done (by kernel_rfl) ?_ _
    go_wp2_with fail
    refine bodyPost_ret (results_cell_row2 rfl _ _ (w.heap.size + 1 + 1 + 1) 62 _ (0, 0) _ rfl Z7.out Tryz.underlying62 rfl hsz9) rfl ?_
    exact ⟨_, rfl, by rw [List.length_cons, List.length_cons, HL5.out], hon9, by rw [← HVV.out]; exact HS7.out, HF7.out⟩
end Go.Proofs.YtfegnmbdgdjkgaaGreat
