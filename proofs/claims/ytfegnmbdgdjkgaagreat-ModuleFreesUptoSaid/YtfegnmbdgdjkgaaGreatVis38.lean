/- The program's walker: module.walker.visit. -/
import Derived.Test.YtfegnmbdgdjkgaaGreatBod38
namespace Go.Proofs.YtfegnmbdgdjkgaaGreat
open Go.RowKit

theorem infoFx : ∃ z : Array Value, z.size = 19 ∧ (Tryz.prog.info? 62).map (fun i => (i.zero, i.size, i.bytes)) = some (some (.agg z), 19, 280) := ⟨zeroFl.toArray, rfl, by kernel_rfl⟩
set_option maxRecDepth 100000 in
set_option maxHeartbeats 6400000 in
theorem wlk_step (sb mb : Nat) (f : ExprD → List ByteArray → List ByteArray) (g : ExprD → Nat) (K : Nat) (x : ExprD) (hq : qdE x) (hA : ∀ k (h : k < x.args.length), WlkX sb mb x.args[k] (f x.args[k]) (g x.args[k]) K) (hF : ∀ k (h : k < x.funcs.length), WlkX sb mb x.funcs[k].body (f x.funcs[k].body) (g x.funcs[k].body) K)
    (hlA : ∀ k (h : k < x.args.length) vs, (f x.args[k] vs).length ≤ g x.args[k]) (hlF : ∀ k (h : k < x.funcs.length) vs, (f x.funcs[k].body vs).length ≤ g x.funcs[k].body) :
    WlkX sb mb x (fun vs => ndV x vs ++ frF f x vs x.funcs.length ++ frA f x vs x.args.length) (1 + (x.funcs.map fun u => g u.body).sum + (x.args.map g).sum) (K + 2097152) := by
  intro w lo B B1 N C xs d cs l hN hC hn hB hB1 hG hlo1 hlo2 hsb hM hcell hS hd hx
  have IA := Lib.hid hA
  have IF := Lib.hid hF
  have HLA := Lib.hid hlA
  have HLF := Lib.hid hlF
  have HNN := Lib.hid hn
  have HM := Lib.hid hM
  have HS := Lib.hid hS
  have HD := Lib.hid hd
  have HX := Lib.hid hx
  have HCL := Lib.hid hcell
  have HSB := Lib.hid (World.block_lt_of_cell? w _ hcell)
  have HMB := Lib.hid hS.lt
  have hsz := Lib.hid (show (Tryz.prog.info? 54).map (·.size) = some cs.length by rw [hd.len]; kernel_rfl)
  have hsx := Lib.hid (show (Tryz.prog.info? 34).map (·.size) = some xs.length by rw [hx.len]; exact sizeE)
  have hsw := Lib.hid (show (Tryz.prog.info? 48).map (·.size) = some (wlkC sb).length by kernel_rfl)
  obtain ⟨aa, fa, ac, fc, vs, hh⟩ := hx.has
  have c0 := hh.op
  have c1 := hh.name
  have c15 := hh.args
  have c16 := hh.funcs
  have hal : x.args.length ≤ N := hh.own.2.2.1
  have hfl : x.funcs.length ≤ N := hh.own.2.2.2
  have HAr := Lib.hid hh.atArgs
  have HU := Lib.hid hh.atFuncs
  have HV := Lib.hid hh.atVal
  have HVS := Lib.hid hh.val
  have hvz := Lib.hid (show (Tryz.prog.info? 30).map (·.size) = some vs.length by rw [hh.atVal.len]; exact sizeV)
  have I0 := Lib.hid (VisI.start sb mb w xs cs zeroEl 34)
  have HFIT := Lib.hid (show fitsV 1 x.val from ⟨by rw [hq.2.2.1]; simp, by rw [hq.2.2.2]; simp⟩)
  obtain ⟨R, hR⟩ : ∃ R, R = l ++ (fun vs => ndV x vs ++ frF f x vs x.funcs.length ++ frA f x vs x.args.length) d.vs := ⟨_, rfl⟩
  rw [← hR]
  have HR := Lib.hid (show l ++ ndV x d.vs ++ frF f x d.vs x.funcs.length ++ frA f x d.vs x.args.length = R by rw [hR]; simp [List.append_assoc])
  have HKD := Lib.hid (show ∀ u, FBB w.heap.size mb w u → ScD.At u lo u.heap.size C d cs from fun u h => (HD.out.keep (h.kept hlo1 hB)).mono (Nat.le_trans hB h.size) (Nat.le_refl _))
  have HKX := Lib.hid (show ∀ u, FBB w.heap.size mb w u → ExprD.At u B1 N x xs from fun u h => ExprD.At.below (h.below hB1 (by have := HMB.out; omega)) _ HX.out)
  have HKV := Lib.hid (show ∀ u, FBB w.heap.size mb w u → ValD.At u B1 N x.val vs from fun u h => ValD.At.below (h.below hB1 (by have := HMB.out; omega)) _ HV.out)
  have HKM := Lib.hid (show ∀ u, FBB w.heap.size mb w u → MaxC u from fun u h => HM.out.fb hG h.fb)
  have HKC := Lib.hid (show ∀ u, FBB w.heap.size mb w u → u.cell? ⟨sb, 0, none⟩ = some (.map (some mb)) from fun u h => (h.cell HSB.out hsb).trans HCL.out)
  have HQ19 := Lib.hid hq.1
  clear hh hx hA hF hlA hlF hn hM hS hd hcell hq hR
  go_enter Tryz.func12, Tryz.ntmps12
  go_wp2_with (first
    | (refine wpList_load_mid rfl 54 _ rfl (w.heap.size + 1 + 1) 0 rfl cs _ I0.out.range Tryz.underlying54 rfl hsz.out ?_)
    | (refine wpList_load_mid rfl 34 _ rfl (w.heap.size + 1) 0 rfl xs _ I0.out.r2.range Tryz.underlying34 rfl hsx.out ?_)
    | (refine wpList_load_mid rfl 48 _ rfl (w.heap.size) 0 rfl (wlkC sb) _ I0.out.r1.range Tryz.underlying48 rfl hsw.out ?_))
  refine (node_p sb mb x xs d cs l _ lo _ B1 C N (by omega) (by omega) (Nat.le_refl _) (by have := I0.out.size; have := HMB.out; omega) (HKM.out _ I0.out.fb) (HKD.out _ I0.out.fb) (HKX.out _ I0.out.fb) (HKC.out _ I0.out.fb) (by have := HNN.out; unfold maxLen; omega) (HS.out.later (visNew sb w xs cs zeroEl 34))).mono ?_
  rintro e u1 ⟨rfl, hs1, hf1⟩
  have I1 := Lib.hid (I0.out.step HMB.out (FBB.of_fb hf1 I0.out.size))
  have S1 := Lib.hid hs1
  clear hs1 hf1 I0
  go_wp2_with fail
  refine wp_region_held_drew (S := fun u => VisI sb mb w u xs cs zeroEl 34 ∧ SetH u mb (l ++ ndV x d.vs)) (by kernel_rfl) ⟨I1.out.step HMB.out (FBB.of_drew _ _ _), S1.out.block rfl⟩ (fun hHeld => ?_)
  refine' wpAnyH_takeT (i := 0) (v := .pointer (some ⟨w.heap.size + 1, 0, none⟩)) _ rfl rfl (by kernel_rfl) (by kernel_rfl) (by kernel_rfl) (fun _ _ _ h => h) (.inl ⟨by rfl, fun u hu => (by go_simp)⟩) hHeld ?_
  simp only [List.set_cons_succ, List.set_cons_zero]
  refine' wpAnyH_takeT (i := 1) (v := .int .i64 x.op) _ rfl rfl (by kernel_rfl) (by kernel_rfl) (by kernel_rfl) (fun _ _ _ h => h) (.inl ⟨by rfl, fun u hu => (by have hc := hu.1.r2.get0 c0; go_simp)⟩) hHeld ?_
  simp only [List.set_cons_succ, List.set_cons_zero]
  refine' wpAnyH_takeT (i := 2) (v := .string x.name) _ rfl rfl (by kernel_rfl) (by kernel_rfl) (by kernel_rfl) (fun _ _ _ h => h) (.inl ⟨by rfl, fun u hu => (by go_simp)⟩) hHeld ?_
  simp only [List.set_cons_succ, List.set_cons_zero]
  refine' wpAnyH_takeT (i := 3) (v := .pointer (some ⟨w.heap.size + 1, 2, none⟩)) _ rfl rfl (by kernel_rfl) (by kernel_rfl) (by kernel_rfl) (fun _ _ _ h => h) (.inl ⟨by rfl, fun u hu => (by go_simp)⟩) hHeld ?_
  simp only [List.set_cons_succ, List.set_cons_zero]
  refine' wpAnyH_takeT (i := 4) (v := _) _ rfl rfl (by kernel_rfl) (by kernel_rfl) (by kernel_rfl) (fun _ _ _ h => h) (yieldsIf_load_mid (by kernel_rfl) 30 _ rfl (w.heap.size + 1) 2 rfl vs _ (fun u hu => hu.1.r2.part HVS.out) Tryz.underlying30 rfl hvz.out) hHeld ?_
  simp only [List.set_cons_succ, List.set_cons_zero]
  refine wpAnyH_ready (rs := [5, 7]) (by kernel_rfl) (by simp) ?_
  refine AllReadyH.cons rfl (fun K hK => ?_) (AllReadyH.cons rfl (fun K hK => ?_) AllReadyH.nil)
  case' refine_1 =>
    go_simp
    refine (copy_ex 1 x.val _ B1 N vs (by omega) HFIT.out (by omega) (by have := HMB.out; have := hHeld.1.size; omega) (HKV.out _ hHeld.1.fb)).mono ?_
    rintro e u2 ⟨cs2, rfl, hsafe, hb2⟩
    obtain ⟨ya2, la2, va2, yc2, lc2, vc2, rfl, -⟩ := hsafe.here.row
    refine hK.out _ _ ⟨hHeld.1.step HMB.out (FBB.of_below (hb2.mono hHeld.1.size)), hHeld.2.later hb2⟩ (fun hHeld1 => ?_)
    clear hK K hHeld hb2 hsafe
    refine' wpAnyH_takeT (i := 6) (v := .agg (newE x ya2 la2 va2 yc2 lc2 vc2).toArray) _ rfl rfl (by kernel_rfl) (by kernel_rfl) (by kernel_rfl) (fun _ _ _ h => h) (.inl ⟨by rfl, fun u hu => (by simp only [ValD.row]; go_simp; try rfl)⟩) hHeld1 ?_
    simp only [List.set_cons_succ, List.set_cons_zero]
    refine wpAnyH_ready (rs := [7]) (by kernel_rfl) (by simp) ?_
    refine AllReadyH.cons rfl (fun K hK => ?_) AllReadyH.nil
    go_simp
    refine hK.out _ _ ⟨hHeld1.1.step HMB.out (FBB.of_below ((belowBox u2 _).mono hHeld1.1.size)), hHeld1.2.later (belowBox u2 _)⟩ (fun hHeld2 => ?_)
    clear hK K
    have hz := heap_alloc_new u2 (.cells #[.int .i64 0, .string ⟨#[]⟩, .int .i64 0, .bool false, .bool false, .string ⟨#[]⟩, .int .i64 0, .int .i64 0, .int .i64 0, .int .i64 0, .int .i64 0, .string ⟨#[]⟩, .slice none 0 0, .slice none 0 0, .slice none 0 0, .slice none 0 0, .slice none 0 0] 34)
    refine wpAnyH_ready (rs := [8]) (by kernel_rfl) (by simp) ?_
    refine AllReadyH.cons rfl (fun K hK => ?_) AllReadyH.nil
    rw [if_pos (by kernel_rfl)]
    refine wp_store_row 34 _ _ rfl u2.heap.size (newE x ya2 la2 va2 yc2 lc2 vc2).toArray rfl rfl 34 _ hz (newE_size ..) rfl (newE_ones ..) ?_
    simp only [List.getElem_toArray, List.getElem_cons_succ, List.getElem_cons_zero, Act.put]
    have I4 := Lib.hid (hHeld2.1.step HMB.out (FBB.setRow _ (newE x ya2 la2 va2 yc2 lc2 vc2).toArray (q := u2.heap.size) (by have := hHeld1.1.size; omega)))
    have S4 := Lib.hid (hHeld2.2.block (setRow_other _ u2.heap.size mb (newE x ya2 la2 va2 yc2 lc2 vc2).toArray (by have := hHeld1.2.lt; omega)))
    have T4 := Lib.hid (RetZ.start x ya2 la2 va2 yc2 lc2 vc2 (setRow_heap _ _ _ (newE x ya2 la2 va2 yc2 lc2 vc2).toArray _ _ hz))
    have hq4 : w.heap.size + 4 ≤ u2.heap.size := hHeld1.1.size
    refine hK.out _ _ ⟨I4.out, S4.out⟩ (fun hHeld3 => ?_)
    obtain ⟨q, hq⟩ : ∃ q, q = u2.heap.size := ⟨_, rfl⟩
    rw [← hq] at I4 S4 T4 hq4 ⊢
    obtain ⟨u4, hu4⟩ : ∃ u4, u4 = World.setRow (u2.alloc (.cells #[.int .i64 0, .string ⟨#[]⟩, .int .i64 0, .bool false, .bool false, .string ⟨#[]⟩, .int .i64 0, .int .i64 0, .int .i64 0, .int .i64 0, .int .i64 0, .string ⟨#[]⟩, .slice none 0 0, .slice none 0 0, .slice none 0 0, .slice none 0 0, .slice none 0 0] 34)) q (newE x ya2 la2 va2 yc2 lc2 vc2).toArray := ⟨_, rfl⟩
    rw [← hu4] at I4 S4 T4 ⊢
    clear hK K hHeld1 hHeld2 hHeld3 hz hq hu4
    refine wpAnyH_done (by kernel_rfl) ?_ _
  case' refine_2 =>
    go_simp
    have D1 := Lib.hid (show Below u1.heap.size u1.drew (u1.alloc (.cells #[.int .i64 0, .string ⟨#[]⟩, .int .i64 0, .bool false, .bool false, .string ⟨#[]⟩, .int .i64 0, .int .i64 0, .int .i64 0, .int .i64 0, .int .i64 0, .string ⟨#[]⟩, .slice none 0 0, .slice none 0 0, .slice none 0 0, .slice none 0 0, .slice none 0 0] 34)).drew from belowBox u1.drew (.cells #[.int .i64 0, .string ⟨#[]⟩, .int .i64 0, .bool false, .bool false, .string ⟨#[]⟩, .int .i64 0, .int .i64 0, .int .i64 0, .int .i64 0, .int .i64 0, .string ⟨#[]⟩, .slice none 0 0, .slice none 0 0, .slice none 0 0, .slice none 0 0, .slice none 0 0] 34))
    have hz0 := Lib.hid (show (u1.alloc (.cells #[.int .i64 0, .string ⟨#[]⟩, .int .i64 0, .bool false, .bool false, .string ⟨#[]⟩, .int .i64 0, .int .i64 0, .int .i64 0, .int .i64 0, .int .i64 0, .string ⟨#[]⟩, .slice none 0 0, .slice none 0 0, .slice none 0 0, .slice none 0 0, .slice none 0 0] 34)).drew.heap[u1.heap.size]? = some (.cells #[.int .i64 0, .string ⟨#[]⟩, .int .i64 0, .bool false, .bool false, .string ⟨#[]⟩, .int .i64 0, .int .i64 0, .int .i64 0, .int .i64 0, .int .i64 0, .string ⟨#[]⟩, .slice none 0 0, .slice none 0 0, .slice none 0 0, .slice none 0 0, .slice none 0 0] 34 (0, 0)) from heap_alloc_new u1 (.cells #[.int .i64 0, .string ⟨#[]⟩, .int .i64 0, .bool false, .bool false, .string ⟨#[]⟩, .int .i64 0, .int .i64 0, .int .i64 0, .int .i64 0, .int .i64 0, .string ⟨#[]⟩, .slice none 0 0, .slice none 0 0, .slice none 0 0, .slice none 0 0, .slice none 0 0] 34))
    have hq4 : w.heap.size + 4 ≤ u1.heap.size := hHeld.1.size
    refine hK.out _ _ ⟨hHeld.1.step HMB.out (FBB.of_below (D1.out.mono hHeld.1.size)), hHeld.2.later D1.out⟩ (fun hHeld2 => ?_)
    have hlt0 : u1.heap.size < (u1.alloc (.cells #[.int .i64 0, .string ⟨#[]⟩, .int .i64 0, .bool false, .bool false, .string ⟨#[]⟩, .int .i64 0, .int .i64 0, .int .i64 0, .int .i64 0, .int .i64 0, .string ⟨#[]⟩, .slice none 0 0, .slice none 0 0, .slice none 0 0, .slice none 0 0, .slice none 0 0] 34)).drew.heap.size := (Array.getElem?_eq_some_iff.1 hz0.out).1
    clear hK K hHeld
    refine wpAnyH_ready (rs := [5]) (by kernel_rfl) (by simp) ?_
    refine AllReadyH.cons rfl (fun K hK => ?_) AllReadyH.nil
    go_simp
    refine (copy_ex 1 x.val _ B1 N vs (by omega) HFIT.out (by omega) (by have := HMB.out; have := hHeld2.1.size; omega) (HKV.out _ hHeld2.1.fb)).mono ?_
    rintro e u2 ⟨cs2, rfl, hsafe, hb2⟩
    obtain ⟨ya2, la2, va2, yc2, lc2, vc2, rfl, -⟩ := hsafe.here.row
    have hz := (hb2.block _ hlt0).trans hz0.out
    refine hK.out _ _ ⟨hHeld2.1.step HMB.out (FBB.of_below (hb2.mono hHeld2.1.size)), hHeld2.2.later hb2⟩ (fun hHeld1 => ?_)
    clear hK K hHeld2 hb2 hsafe hlt0 D1 hz0
    refine' wpAnyH_takeT (i := 6) (v := .agg (newE x ya2 la2 va2 yc2 lc2 vc2).toArray) _ rfl rfl (by kernel_rfl) (by kernel_rfl) (by kernel_rfl) (fun _ _ _ h => h) (.inl ⟨by rfl, fun u hu => (by simp only [ValD.row]; go_simp; try rfl)⟩) hHeld1 ?_
    simp only [List.set_cons_succ, List.set_cons_zero]
    refine wpAnyH_ready (rs := [8]) (by kernel_rfl) (by simp) ?_
    refine AllReadyH.cons rfl (fun K hK => ?_) AllReadyH.nil
    rw [if_pos (by kernel_rfl)]
    refine wp_store_row 34 _ _ rfl u1.heap.size (newE x ya2 la2 va2 yc2 lc2 vc2).toArray rfl rfl 34 _ hz (newE_size ..) rfl (newE_ones ..) ?_
    simp only [List.getElem_toArray, List.getElem_cons_succ, List.getElem_cons_zero, Act.put]
    have I4 := Lib.hid (hHeld1.1.step HMB.out (FBB.setRow _ (newE x ya2 la2 va2 yc2 lc2 vc2).toArray (q := u1.heap.size) hq4))
    have S4 := Lib.hid (hHeld1.2.block (setRow_other _ u1.heap.size mb (newE x ya2 la2 va2 yc2 lc2 vc2).toArray (by have := HMB.out; omega)))
    have T4 := Lib.hid (RetZ.start x ya2 la2 va2 yc2 lc2 vc2 (setRow_heap _ _ _ (newE x ya2 la2 va2 yc2 lc2 vc2).toArray _ _ hz))
    refine hK.out _ _ ⟨I4.out, S4.out⟩ (fun hHeld3 => ?_)
    obtain ⟨q, hq⟩ : ∃ q, q = u1.heap.size := ⟨_, rfl⟩
    rw [← hq] at I4 S4 T4 hq4 ⊢
    obtain ⟨u4, hu4⟩ : ∃ u4, u4 = World.setRow u2 q (newE x ya2 la2 va2 yc2 lc2 vc2).toArray := ⟨_, rfl⟩
    rw [← hu4] at I4 S4 T4 ⊢
    clear hK K hHeld1 hHeld3 hz hq hu4
    refine wpAnyH_done (by kernel_rfl) ?_ _
  all_goals
    have d16 := I4.out.r2.get0 c16
    go_wp2_with fail
    go_simp
    go_loopw [42] (fun i wr => ∃ k : Nat, k ≤ x.funcs.length ∧ i = .int .i64 k ∧ Hid (∃ cs' gs', VisI sb mb w wr xs cs' zeroEl 34 ∧ ScD.At wr lo wr.heap.size (C + k) ⟨d.vs, d.ls, gs'⟩ cs') ∧ Hid (SetH wr mb (l ++ ndV x d.vs)) ∧ Hid (RetZ wr q)) (fun i _ => x.funcs.length - (intOf i).toNat)
    case atStart => exact ⟨0, by omega, rfl, Lib.hid ⟨cs, d.gs, I4.out, HKD.out _ I4.out.fb⟩, S4, T4⟩
    case round =>
      obtain ⟨w1, rfl⟩ : ∃ w1, w1 = wr := ⟨wr, rfl⟩
      clear I4 S4 T4 d16
      obtain ⟨k, hk, rfl, HI, S1, T1⟩ := hrel
      obtain ⟨cs1, gs1, i1, d1⟩ := HI.out
      have I1 := Lib.hid i1
      have d16 := I1.out.r2.get0 c16
      clear HI i1
      by_cases hlt : k < x.funcs.length
      case pos =>
        obtain ⟨va, la, ga, vc, lc, gc, rfl, hv, hls, hg, k1, k2, k3⟩ := d1
        have HNV := Lib.hid hv
        have HNL := Lib.hid hls
        have HNG := Lib.hid hg
        have K1 := Lib.hid k1
        have K2 := Lib.hid k2
        have K3 := Lib.hid k3
        clear hv hls hg k1 k2 k3
        obtain ⟨b, p, rfl, hb, hget⟩ := HU.out.get (by intro h; simp [h] at hlt)
        obtain ⟨fs, g1, g2⟩ := hget k hlt
        obtain ⟨pa, pc, es, gh⟩ := g2.has
        have HFR := Lib.hid (show ∀ u, FBB w.heap.size mb w u → CellsAt u b (p + k * 19) fs from fun u hu => g1.below (hu.below hB1 (by have := HMB.out; omega)) hb)
        have f0 := (box_at w1 fs 62).get0 gh.name
        have f1 := (box_at w1 fs 62).get0 gh.params
        have hpl : x.funcs[k].params.length ≤ N := gh.hp
        have hlf := Lib.hid (show (Tryz.prog.info? 62).map (·.size) = some fs.length by rw [gh.len]; exact sizeFN)
        have hlf2 := Lib.hid (show (Tryz.prog.info? 62).map (·.size) = some fs.toArray.size by rw [List.size_toArray, gh.len]; exact sizeFN)
        have h19 := Lib.hid (show 19 = fs.toArray.size by rw [List.size_toArray, gh.len])
        have hone := Lib.hid (show fs.toArray.all (·.oneCell') = true from Go.all_oneCell_toArray gh.one)
        have I2 := Lib.hid (I1.out.step (u' := w1.alloc (.cells fs.toArray 62)) HMB.out (FBB.of_below ((belowBox w1 _).mono I1.out.size)))
        have e2 := I2.out.scp (j := 2) (v := .slice ga gs1.length gc) rfl
        have HB2 := Lib.hid (belowBox w1 (.cells fs.toArray 62))
        clear g1 g2 gh hget
        go_wp2_with (first
          | (refine wpList_load_mid rfl 62 _ rfl b (p + k * 19) rfl fs _ (HFR.out _ I1.out.fb).range Tryz.underlying62 rfl hlf.out ?_)
          | (refine wpList_store_new rfl 62 _ _ rfl _ fs.toArray rfl rfl hlf2.out h19.out hone.out ?_))
        refine (with_g gs1 x.funcs[k].name x.funcs[k].params.length ga gc _ lo lo w1.heap.size (by have := K3.out; omega) (Nat.le_trans hlo2 (Nat.le_trans I1.out.fb.size HB2.out.size)) HB2.out.size (HNG.out.keep (Kept.of_below HB2.out))).mono ?_
        rintro e w3 ⟨a1, c1', rfl, _, _, hn1, hb1⟩
        have N1 := Lib.hid hn1
        have I3 := Lib.hid (I2.out.step HMB.out (FBB.of_below (hb1.mono I2.out.size)))
        have HB3 := Lib.hid (belowThen HB2.out hb1)
        obtain ⟨m1, hm1⟩ : ∃ m, (gs1 ++ [(x.funcs[k].name, (x.funcs[k].params.length : Int))]).length = m := ⟨_, rfl⟩
        have HM1 := Lib.hid hm1
        rw [hm1]
        clear hn1 hb1 hm1 f0 f1 e2 d16
        have z1 := I3.out.scp (j := 2) (v := .slice ga gs1.length gc) rfl
        have fz1 := I3.out.frozen 2
        go_wp2_with fail
        have hz := I3.out.scp (j := 0) (v := .slice va d.vs.length vc) rfl
        have hkp : Kept lo w1.heap.size w1 w3 := Kept.of_below HB3.out
        have hs3 := HB3.out.size
        have D4 := Lib.hid (show ∃ cs' gs', VisI sb mb w (w3.setCell ⟨w.heap.size + 1 + 1, 2, none⟩ (.slice a1 m1 c1')) xs cs' zeroEl 34 ∧ ScD.At (w3.setCell ⟨w.heap.size + 1 + 1, 2, none⟩ (.slice a1 m1 c1')) lo (w3.setCell ⟨w.heap.size + 1 + 1, 2, none⟩ (.slice a1 m1 c1')).heap.size (C + (k + 1)) ⟨d.vs, d.ls, gs'⟩ cs' from
          ⟨_, gs1 ++ [(x.funcs[k].name, (x.funcs[k].params.length : Int))], I3.out.setCell 2 (.slice a1 m1 c1'), va, la, a1, vc, lc, c1', by rw [HM1.out]; rfl, (((HNV.out.keep hkp).mono hs3).setCell hz 2 _).mono (by simp), (((HNL.out.keep hkp).mono hs3).setCell hz 2 _).mono (by simp), (N1.out.setCell hz 2 _).mono (by simp), by have := K1.out; show d.vs.length ≤ _; omega, by have := K2.out; show d.ls.length ≤ _; omega, by have := K3.out; rw [List.length_append]; show gs1.length + 1 ≤ _; omega⟩)
        have S4 := Lib.hid ((S1.out.later HB3.out).block (heap_setCell_other w3 ⟨w.heap.size + 1 + 1, 2, none⟩ mb (.slice a1 m1 c1') (by have := HMB.out; show mb ≠ w.heap.size + 1 + 1; omega)))
        have T4 := Lib.hid ((T1.out.below HB3.out).setCell (g := w.heap.size + 1 + 1) (j := 2) (v := .slice a1 m1 c1') (by omega))
        go_roundw
        case rel => exact ⟨k + 1, by omega, by go_num, D4, S4, T4⟩
        case measure => simp [intOf]; omega
      case neg =>
        obtain rfl : k = x.funcs.length := by omega
        have D1 := Lib.hid (d1.mono (Nat.le_refl _) (show C + x.funcs.length ≤ C + N by omega))
        have hsz1 := Lib.hid (show (Tryz.prog.info? 54).map (·.size) = some cs1.length by rw [d1.len]; kernel_rfl)
        obtain ⟨z0f, hz0fs, hinfof⟩ := infoFx
        obtain ⟨i0f, hif, hz0f, hz1f, hz2f⟩ := info_parts hinfof
        have HIF := Lib.hid hif
        have HZ0F := Lib.hid hz0f
        have HZ1F := Lib.hid hz1f
        have HZ2F := Lib.hid hz2f
        have HZSF := Lib.hid hz0fs
        obtain ⟨HB, hHB⟩ : ∃ HB, HB = w1.heap.size := ⟨_, rfl⟩
        have L1 := Lib.hid (show LoopI sb mb w w1 xs cs1 lo HB (C + N) ⟨d.vs, d.ls, gs1⟩ (l ++ ndV x d.vs ++ frF f x d.vs 0) q 16 62 19 0 from
          ⟨I1.out, by rw [hHB]; exact D1.out, by rw [frF_0, List.append_nil]; exact S1.out, T1.out.next (by rw [hHB]; exact T1.out.lt) (by rw [hHB]; exact Nat.le_refl _)⟩)
        clear d1 hif hz0f hz1f hz2f hz0fs hinfof hHB D1 S1 T1
        go_wp2_with fail
        go_simp
        go_loopw [60] (fun i wr => ∃ k : Nat, k ≤ x.funcs.length ∧ i = .int .i64 k ∧ Hid (LoopI sb mb w wr xs cs1 lo HB (C + N) ⟨d.vs, d.ls, gs1⟩ (l ++ ndV x d.vs ++ frF f x d.vs k) q 16 62 19 k)) (fun i _ => x.funcs.length - (intOf i).toNat)
        case atStart => exact ⟨0, by omega, rfl, L1⟩
        case round =>
          obtain ⟨w1, rfl⟩ : ∃ w1, w1 = wr := ⟨wr, rfl⟩
          clear I1 L1 d16
          obtain ⟨k, hk, rfl, L1⟩ := hrel
          have d16 := L1.out.vis.r2.get0 c16
          by_cases hlt : k < x.funcs.length
          case pos =>
            obtain ⟨b, p, rfl, hb, hget⟩ := HU.out.get (by intro h; simp [h] at hlt)
            obtain ⟨fs, g1, g2⟩ := hget k hlt
            have HFR := Lib.hid (show ∀ u, FBB w.heap.size mb w u → CellsAt u b (p + k * 19) fs from fun u hu => g1.below (hu.below hB1 (by have := HMB.out; omega)) hb)
            have G2 := Lib.hid (show ∀ u, FBB w.heap.size mb w u → FuncD.At u B1 N x.funcs[k] fs from fun u hu => FuncD.At.below (hu.below hB1 (by have := HMB.out; omega)) _ g2)
            have hlf := Lib.hid (show (Tryz.prog.info? 62).map (·.size) = some fs.length by rw [g2.len]; exact sizeFN)
            have hlf2 := Lib.hid (show (Tryz.prog.info? 62).map (·.size) = some fs.toArray.size by rw [List.size_toArray, g2.len]; exact sizeFN)
            have h19 := Lib.hid (show 19 = fs.toArray.size by rw [List.size_toArray, g2.len])
            have hone := Lib.hid (show fs.toArray.all (·.oneCell') = true by obtain ⟨_, _, _, gh⟩ := g2.has; exact Go.all_oneCell_toArray gh.one)
            have L2 := Lib.hid (L1.out.below HMB.out hlo1 hq4 (belowBox w1 (.cells fs.toArray 62)))
            have HBX := Lib.hid (box_at w1 fs 62)
            have HST := Lib.hid (sum_step (fun u : FuncD => g u.body) hlt)
            have HSL := Lib.hid (sum_le (fun u : FuncD => g u.body) x.funcs (k + 1))
            have HGN := Lib.hid (show (l ++ ndV x d.vs ++ frF f x d.vs k).length + g x.funcs[k].body ≤ 65536 by
              rw [List.length_append, List.length_append]
              have h1 := ndV_len x d.vs
              have h2 := frF_len x d.vs HLF.out k hk
              have h3 := HST.out
              have h4 := HSL.out
              have h5 := HNN.out
              omega)
            clear g1 g2 hget
            go_wp2_with (first
              | (refine wpList_load_mid rfl 62 _ rfl b (p + k * 19) rfl fs _ (HFR.out _ L1.out.vis.fb).range Tryz.underlying62 rfl hlf.out ?_)
              | (refine wpList_load_mid rfl 62 _ rfl w1.heap.size 0 rfl fs _ HBX.out.range Tryz.underlying62 rfl hlf.out ?_)
              | (refine wpList_load_mid rfl 48 _ rfl (w.heap.size) 0 rfl (wlkC sb) _ L2.out.vis.r1.range Tryz.underlying48 rfl hsw.out ?_)
              | (refine wpList_load_mid rfl 54 _ rfl (w.heap.size + 1 + 1) 0 rfl cs1 _ L2.out.vis.range Tryz.underlying54 rfl hsz1.out ?_)
              | (refine wpList_store_new rfl 62 _ _ rfl _ fs.toArray rfl rfl hlf2.out h19.out hone.out ?_))
            refine (bod_p sb mb (f x.funcs[k].body) (g x.funcs[k].body) K x.funcs[k] (IF.out k hlt) _ lo _ B1 N (C + N) fs ⟨d.vs, d.ls, gs1⟩ cs1 _ hN (by omega) HGN.out (Nat.le_refl _) hB1 hG hlo1 (Nat.le_trans hlo2 L2.out.vis.fb.size) hsb (HKM.out _ L2.out.vis.fb) (HKC.out _ L2.out.vis.fb) L2.out.set (L2.out.sc.mono L2.out.ret.size (Nat.le_refl _)) (G2.out _ L2.out.vis.fb)).mono ?_
            rintro e u3 ⟨rs5, rfl, hl5, ho5, hs5, hf5⟩
            have L3 := Lib.hid (L2.out.fb HMB.out hlo1 hq4 hf5 (show SetH u3 mb (l ++ ndV x d.vs ++ frF f x d.vs (k + 1)) by rw [frF_step f x d.vs hlt, ← List.append_assoc]; exact hs5))
            have L4 := Lib.hid (L3.out.below HMB.out hlo1 hq4 (belowBox u3 (.cells rs5.toArray 62)))
            have hl52 := Lib.hid (show (Tryz.prog.info? 62).map (·.size) = some rs5.toArray.size by rw [List.size_toArray, hl5]; exact sizeFN)
            have hl53 := Lib.hid (show (Tryz.prog.info? 62).map (·.size) = some rs5.length by rw [hl5]; exact sizeFN)
            have hl54 := Lib.hid (show 19 = rs5.toArray.size by rw [List.size_toArray, hl5])
            have HO5 := Lib.hid ho5
            have HBY := Lib.hid (box_at u3 rs5 62)
            obtain ⟨rs, i, v, xr, t1, t2, t3, t4, t5, t6, t7⟩ := L4.out.ret.has
            have HX1 := Lib.hid t1
            have HX2 := Lib.hid t2
            have HX3 := Lib.hid t3
            have HX4 := Lib.hid t4
            have HX5 := Lib.hid (t5 rfl)
            have HX6 := Lib.hid t6
            have HX7 := Lib.hid t7
            have HA3 := Lib.hid (show ∀ u ∈ rs5, u.oneCell' = true from fun u hu => List.all_eq_true.1 (by simpa using ho5) u hu)
            have HA4 := Lib.hid (show k + 1 ≤ maxLen by unfold maxLen; omega)
            have HA5 := Lib.hid (show (k + 1) * 280 ≤ 140737488355328 by omega)
            have HA6 := Lib.hid (show HB ≤ ((u3.alloc (.cells rs5.toArray 62)).alloc (.cells rs5.toArray 62)).heap.size from Nat.le_trans L4.out.ret.size (by rw [World.size_alloc (u3.alloc (.cells rs5.toArray 62))]; exact Nat.le_succ _))
            have z16 : (u3.alloc (.cells rs5.toArray 62)).cell? ⟨q, 16, none⟩ = some v := by
              have := row_range t1 16 v t6
              rwa [Nat.zero_add] at this
            have HSR := Lib.hid (show SrcAt ((u3.alloc (.cells rs5.toArray 62)).alloc (.cells rs5.toArray 62)) (some ⟨u3.heap.size + 1, 0, none⟩) 1 rs5 by have := src_new (u3.alloc (.cells rs5.toArray 62)) rs5 62 1; rwa [World.size_alloc] at this)
            have hfz := fold_zip0 rs5 #[.string ⟨#[]⟩, .slice none 0 0, .int .i64 0, .string ⟨#[]⟩, .int .i64 0, .bool false, .bool false, .string ⟨#[]⟩, .int .i64 0, .int .i64 0, .int .i64 0, .int .i64 0, .int .i64 0, .string ⟨#[]⟩, .slice none 0 0, .slice none 0 0, .slice none 0 0, .slice none 0 0, .slice none 0 0] (by rw [hl5]; rfl)
            have HL5 := Lib.hid (show rs5.length = 1 * 19 from hl5)
            clear hs5 hf5 ho5 t1 t2 t3 t4 t5 t6 t7 d16
            go_wp2_with (first
              | (at_builtin; refine wpList_append_src rfl _ _ 32 rfl HB 62 i0f (.agg z0f) 19 280 Tryz.underlying32 HIF.out HZ0F.out HZ1F.out HZ2F.out HZSF.out (by decide) v k xr rfl (HX7.out.alloc _) (some ⟨u3.heap.size + 1, 0, none⟩) 1 1 rs5 rfl HL5.out HSR.out HA3.out HA4.out HA5.out HA6.out ?_)
              | (refine wpList_load_mid rfl 62 _ rfl u3.heap.size 0 rfl rs5 _ HBY.out.range Tryz.underlying62 rfl hl53.out ?_)
              | (refine wpList_store_new rfl 62 _ _ rfl _ rs5.toArray rfl rfl hl52.out hl54.out HO5.out ?_))
            intro v6 u6 hown6 hg6
            obtain ⟨a6, c6, rfl⟩ := own_slice38 hown6
            obtain ⟨l6, f6, g6⟩ := L4.out.grow HMB.out hq4 (by omega) (by omega) HX1.out HX2.out HX3.out HX4.out (fun _ => HX5.out) HX6.out HX7.out hown6 hg6
            have L6 := Lib.hid l6
            clear hown6 hg6 l6 z16 hfz hl5
            go_wp2_with fail
            go_roundw
            case rel => exact ⟨k + 1, by omega, by go_num, L6⟩
            case measure => simp [intOf]; omega
          case neg =>
            obtain rfl : k = x.funcs.length := by omega
            obtain ⟨z0, hz0s, hinfo⟩ := infoEx
            obtain ⟨i0, hi, hz0, hz1, hz2⟩ := info_parts hinfo
            have HI0 := Lib.hid hi
            have HZ0 := Lib.hid hz0
            have HZ1 := Lib.hid hz1
            have HZ2 := Lib.hid hz2
            have HZS := Lib.hid hz0s
            have L7 := Lib.hid (show LoopI sb mb w w1 xs cs1 lo HB (C + N) ⟨d.vs, d.ls, gs1⟩ (l ++ ndV x d.vs ++ frF f x d.vs x.funcs.length ++ frA f x d.vs 0) q 15 34 17 0 from
              ⟨L1.out.vis, L1.out.sc, by rw [frA_0, List.append_nil]; exact L1.out.set, L1.out.ret.next⟩)
            have d15 := L1.out.vis.r2.get0 c15
            clear hi hz0 hz1 hz2 hz0s hinfo L1 d16 HIF HZ0F HZ1F HZ2F HZSF HU IF
            go_wp2_with fail
            go_simp
            go_loopw [85] (fun i wr => ∃ k : Nat, k ≤ x.args.length ∧ i = .int .i64 k ∧ Hid (LoopI sb mb w wr xs cs1 lo HB (C + N) ⟨d.vs, d.ls, gs1⟩ (l ++ ndV x d.vs ++ frF f x d.vs x.funcs.length ++ frA f x d.vs k) q 15 34 17 k)) (fun i _ => x.args.length - (intOf i).toNat)
            case atStart => exact ⟨0, by omega, rfl, L7⟩
            case round =>
              obtain ⟨wR, rfl⟩ : ∃ w', w' = wr := ⟨wr, rfl⟩
              clear L7 d15
              obtain ⟨k, hk, rfl, LR⟩ := hrel
              have d15 := LR.out.vis.r2.get0 c15
              by_cases hlt : k < x.args.length
              case pos =>
                obtain ⟨b, p, rfl, hb, hget⟩ := HAr.out.get (by intro h; simp [h] at hlt)
                obtain ⟨es, g1, g2⟩ := hget k hlt
                have HER := Lib.hid (show ∀ u, FBB w.heap.size mb w u → CellsAt u b (p + k * 17) es from fun u hu => g1.below (hu.below hB1 (by have := HMB.out; omega)) hb)
                have HES := Lib.hid (show ∀ u, FBB w.heap.size mb w u → ExprD.At u B1 N x.args[k] es from fun u hu => ExprD.At.below (hu.below hB1 (by have := HMB.out; omega)) _ g2)
                have hle := Lib.hid (show (Tryz.prog.info? 34).map (·.size) = some es.length by rw [g2.len]; exact sizeE)
                have hle2 := Lib.hid (show (Tryz.prog.info? 34).map (·.size) = some es.toArray.size by rw [List.size_toArray, g2.len]; exact sizeE)
                have h17 := Lib.hid (show 17 = es.toArray.size by rw [List.size_toArray, g2.len])
                have hone := Lib.hid (show es.toArray.all (·.oneCell') = true from Go.all_oneCell_toArray g2.one)
                have HST := Lib.hid (sum_step g hlt)
                have HSL := Lib.hid (sum_le g x.args (k + 1))
                have HGN := Lib.hid (show (l ++ ndV x d.vs ++ frF f x d.vs x.funcs.length ++ frA f x d.vs k).length + g x.args[k] ≤ 65536 by
                  rw [List.length_append, List.length_append, List.length_append]
                  have h1 := ndV_len x d.vs
                  have h2 := frF_len x d.vs HLF.out x.funcs.length (Nat.le_refl _)
                  rw [List.take_length] at h2
                  have h3 := frA_len x d.vs HLA.out k hk
                  have h4 := HST.out
                  have h5 := HSL.out
                  have h6 := HNN.out
                  omega)
                have H19 := Lib.hid (show x.op = 19 → k ≤ 2 from fun h => by have := HQ19.out h; omega)
                clear g1 g2 hget
                go_wp2_with (first
                  | (refine wpList_load_mid rfl 34 _ rfl b (p + k * 17) rfl es _ (HER.out _ LR.out.vis.fb).range Tryz.underlying34 rfl hle.out ?_)
                  | (refine wpList_store_new rfl 34 _ _ rfl _ es.toArray rfl rfl hle2.out h17.out hone.out ?_))
                obtain ⟨w1, hw1⟩ : ∃ w1, w1 = wR.alloc (.cells es.toArray 34) := ⟨_, rfl⟩
                have L8 := Lib.hid (show LoopI sb mb w w1 xs cs1 lo HB (C + N) ⟨d.vs, d.ls, gs1⟩ (l ++ ndV x d.vs ++ frF f x d.vs x.funcs.length ++ frA f x d.vs k) q 15 34 17 k by rw [hw1]; exact LR.out.below HMB.out hlo1 hq4 (belowBox wR _))
                have H18 := Lib.hid (show ∀ u, FB mb w1 u → CellsAt u wR.heap.size 0 es from fun u hu j hj =>
                  (hu.cell (by rw [hw1, World.size_alloc]; omega) (by have := LR.out.vis.size; have := HMB.out; omega)).trans (by rw [hw1]; exact box_at wR es 34 j hj))
                have HKD1 := Lib.hid (show ∀ u, FB mb w1 u → ScD.At u lo u.heap.size (C + N) ⟨d.vs, d.ls, gs1⟩ cs1 from fun u hu => (L8.out.sc.keep (hu.kept hlo1 L8.out.ret.size)).mono (Nat.le_trans L8.out.ret.size hu.size) (Nat.le_refl _))
                have I1 := Lib.hid L8.out.vis
                have S1 := Lib.hid L8.out.set
                rw [← hw1]
                clear hw1 LR d15
                have R0 := Lib.hid (RegI.start HMB.out I1.out S1.out)
                refine wp_region_held_drew (S := fun u => VisI sb mb w u xs cs1 zeroEl 34 ∧ FB mb w1 u) (by kernel_rfl) ⟨R0.out.vis, R0.out.fb⟩ (fun hHeld => ?_)
                refine' wpAnyH_takeT (i := 0) (v := _) _ rfl rfl (by kernel_rfl) (by kernel_rfl) (by kernel_rfl) (fun _ _ _ h => h) (yieldsIf_load_mid (by kernel_rfl) 48 _ rfl (w.heap.size) 0 rfl (wlkC sb) _ (fun u hu => hu.1.r1.range) Tryz.underlying48 rfl hsw.out) hHeld ?_
                simp only [List.set_cons_succ, List.set_cons_zero]
                refine' wpAnyH_takeT (i := 1) (v := _) _ rfl rfl (by kernel_rfl) (by kernel_rfl) (by kernel_rfl) (fun _ _ _ h => h) (yieldsIf_load_mid (by kernel_rfl) 34 _ rfl (wR.heap.size) 0 rfl es _ (fun u hu => (H18.out _ hu.2).range) Tryz.underlying34 rfl hle.out) hHeld ?_
                simp only [List.set_cons_succ, List.set_cons_zero]
                refine' wpAnyH_takeT (i := 2) (v := _) _ rfl rfl (by kernel_rfl) (by kernel_rfl) (by kernel_rfl) (fun _ _ _ h => h) (yieldsIf_load_mid (by kernel_rfl) 34 _ rfl (w.heap.size + 1) 0 rfl xs _ (fun u hu => hu.1.r2.range) Tryz.underlying34 rfl hsx.out) hHeld ?_
                simp only [List.set_cons_succ, List.set_cons_zero]
                refine' wpAnyH_takeT (i := 3) (v := .int .i64 k) _ rfl rfl (by kernel_rfl) (by kernel_rfl) (by kernel_rfl) (fun _ _ _ h => h) (.inl ⟨by rfl, fun u hu => (by go_simp)⟩) hHeld ?_
                simp only [List.set_cons_succ, List.set_cons_zero]
                refine' wpAnyH_takeT (i := 4) (v := _) _ rfl rfl (by kernel_rfl) (by kernel_rfl) (by kernel_rfl) (fun _ _ _ h => h) (yieldsIf_load_mid (by kernel_rfl) 54 _ rfl (w.heap.size + 2) 0 rfl cs1 _ (fun u hu => hu.1.range) Tryz.underlying54 rfl hsz1.out) hHeld ?_
                simp only [List.set_cons_succ, List.set_cons_zero]
                refine wpAnyH_ready (rs := [5, 10]) (by kernel_rfl) (by simp) ?_
                refine AllReadyH.cons rfl (fun K hK => ?_) (AllReadyH.cons rfl (fun K hK => ?_) AllReadyH.nil)
                case' refine_1 =>
                  go_simp
                  refine (inner_p x xs k ⟨d.vs, d.ls, gs1⟩ cs1 _ lo _ (C + N) N (by omega) (by omega) H19.out (Nat.le_refl _) (Nat.le_trans hlo2 R0.out.vis.fb.size) (HKD1.out _ R0.out.fb) (ExprD.At.mono (Nat.le_trans (Nat.le_of_lt (Nat.lt_of_le_of_lt hB1 HMB.out)) R0.out.vis.fb.size) _ (HKX.out _ R0.out.vis.fb))).mono ?_
                  rintro e uX ⟨d2, cs2, hv2, rfl, hs2, hbX⟩
                  have HV2 := Lib.hid hv2
                  have S2 := Lib.hid hs2
                  have HbX := Lib.hid hbX
                  have RX := Lib.hid (R0.out.below HMB.out hbX)
                  refine hK.out _ _ ⟨RX.out.vis, RX.out.fb⟩ (fun hHeld => ?_)
                  clear hK K hbX hs2 hv2
                  refine wpAnyH_ready (rs := [6, 10]) (by kernel_rfl) (by simp) ?_
                  refine AllReadyH.cons rfl (fun K hK => ?_) (AllReadyH.cons rfl (fun K hK => ?_) AllReadyH.nil)
                case' refine_1.refine_1 =>
                  go_simp
                  refine (IA.out k hlt _ lo _ B1 N _ es d2 cs2 _ hN (by omega) HGN.out (Nat.le_refl _) hB1 hG hlo1 (Nat.le_trans hlo2 RX.out.vis.fb.size) hsb (HKM.out _ RX.out.vis.fb) (HKC.out _ RX.out.vis.fb) RX.out.set S2.out (HES.out _ RX.out.vis.fb)).mono ?_
                  rintro e uV ⟨rs5, rfl, hl5, ho5, hs5, hf5⟩
                  have RV := Lib.hid (RX.out.went HMB.out hf5 hs5)
                  have HO5 := Lib.hid ho5
                  refine hK.out _ _ ⟨RV.out.vis, RV.out.fb⟩ (fun hHeld => ?_)
                  clear hK K hs5 hf5 ho5
                  refine' wpAnyH_takeT (i := 7) (v := .tuple #[.agg rs5.toArray, .int .i64 0]) _ rfl rfl (by kernel_rfl) (by kernel_rfl) (by kernel_rfl) (fun _ _ _ h => h) (.inl ⟨by rfl, fun u hu => (by go_simp)⟩) hHeld ?_
                  simp only [List.set_cons_succ, List.set_cons_zero]
                  refine' wpAnyH_takeT (i := 8) (v := .agg rs5.toArray) _ rfl rfl (by kernel_rfl) (by kernel_rfl) (by kernel_rfl) (fun _ _ _ h => h) (.inl ⟨by rfl, fun u hu => (by go_simp)⟩) hHeld ?_
                  simp only [List.set_cons_succ, List.set_cons_zero]
                  refine' wpAnyH_takeT (i := 9) (v := .int .i64 0) _ rfl rfl (by kernel_rfl) (by kernel_rfl) (by kernel_rfl) (fun _ _ _ h => h) (.inl ⟨by rfl, fun u hu => (by go_simp)⟩) hHeld ?_
                  simp only [List.set_cons_succ, List.set_cons_zero]
                  refine wpAnyH_ready (rs := [10]) (by kernel_rfl) (by simp) ?_
                  refine AllReadyH.cons rfl (fun K hK => ?_) AllReadyH.nil
                  go_simp
                  obtain ⟨uA, huA⟩ : ∃ uA, uA = uV.alloc (.cells #[.int .i64 0, .string ⟨#[]⟩, .int .i64 0, .bool false, .bool false, .string ⟨#[]⟩, .int .i64 0, .int .i64 0, .int .i64 0, .int .i64 0, .int .i64 0, .string ⟨#[]⟩, .slice none 0 0, .slice none 0 0, .slice none 0 0, .slice none 0 0, .slice none 0 0] 34) := ⟨_, rfl⟩
                  rw [← huA]
                  have HbA := Lib.hid (show Below uV.heap.size uV uA by rw [huA]; exact belowBox uV _)
                  have ZA := Lib.hid (show uA.heap[uV.heap.size]? = some (.cells #[.int .i64 0, .string ⟨#[]⟩, .int .i64 0, .bool false, .bool false, .string ⟨#[]⟩, .int .i64 0, .int .i64 0, .int .i64 0, .int .i64 0, .int .i64 0, .string ⟨#[]⟩, .slice none 0 0, .slice none 0 0, .slice none 0 0, .slice none 0 0, .slice none 0 0] 34 (0, 0)) by rw [huA]; exact heap_alloc_new uV _)
                  have hqa : w.heap.size + 4 ≤ uV.heap.size := RV.out.vis.size
                  have hqb : w1.heap.size ≤ uV.heap.size := RV.out.fb.size
                  have RA := Lib.hid (RV.out.below HMB.out HbA.out)
                  obtain ⟨q5, hq5⟩ : ∃ q5, q5 = uV.heap.size := ⟨_, rfl⟩
                  rw [← hq5] at ZA hqa hqb ⊢
                  refine hK.out _ _ ⟨RA.out.vis, RA.out.fb⟩ (fun hHeld => ?_)
                  clear hK K huA hq5
                  refine wpAnyH_ready (rs := [11]) (by kernel_rfl) (by simp) ?_
                  refine AllReadyH.cons rfl (fun K hK => ?_) AllReadyH.nil
                  rw [if_pos (by kernel_rfl)]
                  refine wp_store_row 34 _ _ rfl q5 rs5.toArray rfl rfl 34 _ ZA.out (by rw [List.size_toArray, hl5]; exact sizeE) (show 17 = rs5.toArray.size by rw [List.size_toArray, hl5]) HO5.out ?_
                  simp only [List.getElem_toArray, List.getElem_cons_succ, List.getElem_cons_zero, Act.put]
                  have R5 := Lib.hid (RA.out.setRow HMB.out hqa hqb rs5.toArray)
                  have Z5 := Lib.hid (setRow_heap _ q5 _ rs5.toArray _ _ ZA.out)
                  obtain ⟨u5, hu5⟩ : ∃ u5, u5 = World.setRow uA q5 rs5.toArray := ⟨_, rfl⟩
                  rw [← hu5] at R5 Z5 ⊢
                  refine hK.out _ _ ⟨R5.out.vis, R5.out.fb⟩ (fun hHeld => ?_)
                  clear hK K hu5
                  refine wpAnyH_ready (rs := [12]) (by kernel_rfl) (by simp) ?_
                  refine AllReadyH.cons rfl (fun K hK => ?_) AllReadyH.nil
                  go_simp
                  refine hK.out _ _ ⟨R5.out.vis, R5.out.fb⟩ (fun hHeldx => ?_)
                  clear hK K hHeldx
                  refine wpAnyH_done (by kernel_rfl) ?_ _
                case' refine_1.refine_2 =>
                  go_simp
                  obtain ⟨uA, huA⟩ : ∃ uA, uA = uX.alloc (.cells #[.int .i64 0, .string ⟨#[]⟩, .int .i64 0, .bool false, .bool false, .string ⟨#[]⟩, .int .i64 0, .int .i64 0, .int .i64 0, .int .i64 0, .int .i64 0, .string ⟨#[]⟩, .slice none 0 0, .slice none 0 0, .slice none 0 0, .slice none 0 0, .slice none 0 0] 34) := ⟨_, rfl⟩
                  rw [← huA]
                  have HbA := Lib.hid (show Below uX.heap.size uX uA by rw [huA]; exact belowBox uX _)
                  have ZA := Lib.hid (show uA.heap[uX.heap.size]? = some (.cells #[.int .i64 0, .string ⟨#[]⟩, .int .i64 0, .bool false, .bool false, .string ⟨#[]⟩, .int .i64 0, .int .i64 0, .int .i64 0, .int .i64 0, .int .i64 0, .string ⟨#[]⟩, .slice none 0 0, .slice none 0 0, .slice none 0 0, .slice none 0 0, .slice none 0 0] 34 (0, 0)) by rw [huA]; exact heap_alloc_new uX _)
                  have RA := Lib.hid (RX.out.below HMB.out HbA.out)
                  obtain ⟨q5, hq5⟩ : ∃ q5, q5 = uX.heap.size := ⟨_, rfl⟩
                  have hqa : w.heap.size + 4 ≤ q5 := by rw [hq5]; exact RX.out.vis.size
                  have hqb : w1.heap.size ≤ q5 := by rw [hq5]; exact RX.out.fb.size
                  rw [← hq5] at ZA ⊢
                  have S3 := Lib.hid ((S2.out.keep (Kept.of_below HbA.out)).mono HbA.out.size (Nat.le_refl _))
                  refine hK.out _ _ ⟨RA.out.vis, RA.out.fb⟩ (fun hHeld => ?_)
                  clear hK K huA hq5
                  refine wpAnyH_ready (rs := [6]) (by kernel_rfl) (by simp) ?_
                  refine AllReadyH.cons rfl (fun K hK => ?_) AllReadyH.nil
                  go_simp
                  refine (IA.out k hlt _ lo _ B1 N _ es d2 cs2 _ hN (by omega) HGN.out (Nat.le_refl _) hB1 hG hlo1 (Nat.le_trans hlo2 RA.out.vis.fb.size) hsb (HKM.out _ RA.out.vis.fb) (HKC.out _ RA.out.vis.fb) RA.out.set S3.out (HES.out _ RA.out.vis.fb)).mono ?_
                  rintro e uV ⟨rs5, rfl, hl5, ho5, hs5, hf5⟩
                  have RV := Lib.hid (RA.out.went HMB.out hf5 hs5)
                  have ZV := Lib.hid ((hf5.block q5 (Array.getElem?_eq_some_iff.1 ZA.out).1 (by have := HMB.out; omega)).trans ZA.out)
                  have HO5 := Lib.hid ho5
                  refine hK.out _ _ ⟨RV.out.vis, RV.out.fb⟩ (fun hHeld => ?_)
                  clear hK K hs5 hf5 ho5
                  refine' wpAnyH_takeT (i := 7) (v := .tuple #[.agg rs5.toArray, .int .i64 0]) _ rfl rfl (by kernel_rfl) (by kernel_rfl) (by kernel_rfl) (fun _ _ _ h => h) (.inl ⟨by rfl, fun u hu => (by go_simp)⟩) hHeld ?_
                  simp only [List.set_cons_succ, List.set_cons_zero]
                  refine' wpAnyH_takeT (i := 8) (v := .agg rs5.toArray) _ rfl rfl (by kernel_rfl) (by kernel_rfl) (by kernel_rfl) (fun _ _ _ h => h) (.inl ⟨by rfl, fun u hu => (by go_simp)⟩) hHeld ?_
                  simp only [List.set_cons_succ, List.set_cons_zero]
                  refine' wpAnyH_takeT (i := 9) (v := .int .i64 0) _ rfl rfl (by kernel_rfl) (by kernel_rfl) (by kernel_rfl) (fun _ _ _ h => h) (.inl ⟨by rfl, fun u hu => (by go_simp)⟩) hHeld ?_
                  simp only [List.set_cons_succ, List.set_cons_zero]
                  refine wpAnyH_ready (rs := [11]) (by kernel_rfl) (by simp) ?_
                  refine AllReadyH.cons rfl (fun K hK => ?_) AllReadyH.nil
                  rw [if_pos (by kernel_rfl)]
                  refine wp_store_row 34 _ _ rfl q5 rs5.toArray rfl rfl 34 _ ZV.out (by rw [List.size_toArray, hl5]; exact sizeE) (show 17 = rs5.toArray.size by rw [List.size_toArray, hl5]) HO5.out ?_
                  simp only [List.getElem_toArray, List.getElem_cons_succ, List.getElem_cons_zero, Act.put]
                  have R5 := Lib.hid (RV.out.setRow HMB.out hqa hqb rs5.toArray)
                  have Z5 := Lib.hid (setRow_heap _ q5 _ rs5.toArray _ _ ZV.out)
                  obtain ⟨u5, hu5⟩ : ∃ u5, u5 = World.setRow uV q5 rs5.toArray := ⟨_, rfl⟩
                  rw [← hu5] at R5 Z5 ⊢
                  refine hK.out _ _ ⟨R5.out.vis, R5.out.fb⟩ (fun hHeld => ?_)
                  clear hK K hu5
                  refine wpAnyH_ready (rs := [12]) (by kernel_rfl) (by simp) ?_
                  refine AllReadyH.cons rfl (fun K hK => ?_) AllReadyH.nil
                  go_simp
                  refine hK.out _ _ ⟨R5.out.vis, R5.out.fb⟩ (fun hHeldx => ?_)
                  clear hK K hHeldx
                  refine wpAnyH_done (by kernel_rfl) ?_ _
                case' refine_2 =>
                  go_simp
                  obtain ⟨uA, huA⟩ : ∃ uA, uA = (w1.alloc (.cells #[.int .i64 0, .string ⟨#[]⟩, .int .i64 0, .bool false, .bool false, .string ⟨#[]⟩, .int .i64 0, .int .i64 0, .int .i64 0, .int .i64 0, .int .i64 0, .string ⟨#[]⟩, .slice none 0 0, .slice none 0 0, .slice none 0 0, .slice none 0 0, .slice none 0 0] 34)).drew := ⟨_, rfl⟩
                  rw [← huA]
                  have HbA := Lib.hid (show Below w1.drew.heap.size w1.drew uA by rw [huA]; exact belowBox w1.drew _)
                  have ZA := Lib.hid (show uA.heap[w1.heap.size]? = some (.cells #[.int .i64 0, .string ⟨#[]⟩, .int .i64 0, .bool false, .bool false, .string ⟨#[]⟩, .int .i64 0, .int .i64 0, .int .i64 0, .int .i64 0, .int .i64 0, .string ⟨#[]⟩, .slice none 0 0, .slice none 0 0, .slice none 0 0, .slice none 0 0, .slice none 0 0] 34 (0, 0)) by rw [huA]; exact heap_alloc_new w1 _)
                  have RA := Lib.hid (R0.out.below HMB.out HbA.out)
                  obtain ⟨q5, hq5⟩ : ∃ q5, q5 = w1.heap.size := ⟨_, rfl⟩
                  have hqa : w.heap.size + 4 ≤ q5 := by rw [hq5]; exact R0.out.vis.size
                  have hqb : w1.heap.size ≤ q5 := by rw [hq5]; exact R0.out.fb.size
                  rw [← hq5] at ZA ⊢
                  refine hK.out _ _ ⟨RA.out.vis, RA.out.fb⟩ (fun hHeld => ?_)
                  clear hK K huA hq5
                  refine wpAnyH_ready (rs := [5]) (by kernel_rfl) (by simp) ?_
                  refine AllReadyH.cons rfl (fun K hK => ?_) AllReadyH.nil
                  go_simp
                  refine (inner_p x xs k ⟨d.vs, d.ls, gs1⟩ cs1 _ lo _ (C + N) N (by omega) (by omega) H19.out (Nat.le_refl _) (Nat.le_trans hlo2 RA.out.vis.fb.size) (HKD1.out _ RA.out.fb) (ExprD.At.mono (Nat.le_trans (Nat.le_of_lt (Nat.lt_of_le_of_lt hB1 HMB.out)) RA.out.vis.fb.size) _ (HKX.out _ RA.out.vis.fb))).mono ?_
                  rintro e uX ⟨d2, cs2, hv2, rfl, hs2, hbX⟩
                  have HV2 := Lib.hid hv2
                  have S2 := Lib.hid hs2
                  have HbX := Lib.hid hbX
                  have RX := Lib.hid (RA.out.below HMB.out hbX)
                  have ZX := Lib.hid ((HbX.out.block _ (Array.getElem?_eq_some_iff.1 ZA.out).1).trans ZA.out)
                  refine hK.out _ _ ⟨RX.out.vis, RX.out.fb⟩ (fun hHeld => ?_)
                  clear hK K hbX hs2 hv2
                  refine wpAnyH_ready (rs := [6]) (by kernel_rfl) (by simp) ?_
                  refine AllReadyH.cons rfl (fun K hK => ?_) AllReadyH.nil
                  go_simp
                  refine (IA.out k hlt _ lo _ B1 N _ es d2 cs2 _ hN (by omega) HGN.out (Nat.le_refl _) hB1 hG hlo1 (Nat.le_trans hlo2 RX.out.vis.fb.size) hsb (HKM.out _ RX.out.vis.fb) (HKC.out _ RX.out.vis.fb) RX.out.set S2.out (HES.out _ RX.out.vis.fb)).mono ?_
                  rintro e uV ⟨rs5, rfl, hl5, ho5, hs5, hf5⟩
                  have RV := Lib.hid (RX.out.went HMB.out hf5 hs5)
                  have ZV := Lib.hid ((hf5.block q5 (Array.getElem?_eq_some_iff.1 ZX.out).1 (by have := HMB.out; omega)).trans ZX.out)
                  have HO5 := Lib.hid ho5
                  refine hK.out _ _ ⟨RV.out.vis, RV.out.fb⟩ (fun hHeld => ?_)
                  clear hK K hs5 hf5 ho5
                  refine' wpAnyH_takeT (i := 7) (v := .tuple #[.agg rs5.toArray, .int .i64 0]) _ rfl rfl (by kernel_rfl) (by kernel_rfl) (by kernel_rfl) (fun _ _ _ h => h) (.inl ⟨by rfl, fun u hu => (by go_simp)⟩) hHeld ?_
                  simp only [List.set_cons_succ, List.set_cons_zero]
                  refine' wpAnyH_takeT (i := 8) (v := .agg rs5.toArray) _ rfl rfl (by kernel_rfl) (by kernel_rfl) (by kernel_rfl) (fun _ _ _ h => h) (.inl ⟨by rfl, fun u hu => (by go_simp)⟩) hHeld ?_
                  simp only [List.set_cons_succ, List.set_cons_zero]
                  refine' wpAnyH_takeT (i := 9) (v := .int .i64 0) _ rfl rfl (by kernel_rfl) (by kernel_rfl) (by kernel_rfl) (fun _ _ _ h => h) (.inl ⟨by rfl, fun u hu => (by go_simp)⟩) hHeld ?_
                  simp only [List.set_cons_succ, List.set_cons_zero]
                  refine wpAnyH_ready (rs := [11]) (by kernel_rfl) (by simp) ?_
                  refine AllReadyH.cons rfl (fun K hK => ?_) AllReadyH.nil
                  rw [if_pos (by kernel_rfl)]
                  refine wp_store_row 34 _ _ rfl q5 rs5.toArray rfl rfl 34 _ ZV.out (by rw [List.size_toArray, hl5]; exact sizeE) (show 17 = rs5.toArray.size by rw [List.size_toArray, hl5]) HO5.out ?_
                  simp only [List.getElem_toArray, List.getElem_cons_succ, List.getElem_cons_zero, Act.put]
                  have R5 := Lib.hid (RV.out.setRow HMB.out hqa hqb rs5.toArray)
                  have Z5 := Lib.hid (setRow_heap _ q5 _ rs5.toArray _ _ ZV.out)
                  obtain ⟨u5, hu5⟩ : ∃ u5, u5 = World.setRow uV q5 rs5.toArray := ⟨_, rfl⟩
                  rw [← hu5] at R5 Z5 ⊢
                  refine hK.out _ _ ⟨R5.out.vis, R5.out.fb⟩ (fun hHeld => ?_)
                  clear hK K hu5
                  refine wpAnyH_ready (rs := [12]) (by kernel_rfl) (by simp) ?_
                  refine AllReadyH.cons rfl (fun K hK => ?_) AllReadyH.nil
                  go_simp
                  refine hK.out _ _ ⟨R5.out.vis, R5.out.fb⟩ (fun hHeldx => ?_)
                  clear hK K hHeldx
                  refine wpAnyH_done (by kernel_rfl) ?_ _
                all_goals
                  have L9 := Lib.hid (show LoopI sb mb w u5 xs cs1 lo HB (C + N) ⟨d.vs, d.ls, gs1⟩ (l ++ ndV x d.vs ++ frF f x d.vs x.funcs.length ++ frA f x d.vs (k + 1)) q 15 34 17 k from
                    L8.out.fb HMB.out hlo1 hq4 R5.out.fb (by rw [frA_step f x d.vs hlt, ← List.append_assoc, ← HV2.out]; exact R5.out.set))
                  have hl53 := Lib.hid (show (Tryz.prog.info? 34).map (·.size) = some rs5.length by rw [hl5]; exact sizeE)
                  have HBY := Lib.hid (row_range Z5.out)
                  obtain ⟨rs, i, v, xr, t1, t2, t3, t4, t5, t6, t7⟩ := L9.out.ret.has
                  have HX1 := Lib.hid t1
                  have HX2 := Lib.hid t2
                  have HX3 := Lib.hid t3
                  have HX4 := Lib.hid t4
                  have HX6 := Lib.hid t6
                  have HX7 := Lib.hid t7
                  have HA3 := Lib.hid (show ∀ u ∈ rs5, u.oneCell' = true from fun u hu => List.all_eq_true.1 (by simpa using HO5.out) u hu)
                  have HA4 := Lib.hid (show k + 1 ≤ maxLen by unfold maxLen; omega)
                  have HA5 := Lib.hid (show (k + 1) * 240 ≤ 140737488355328 by omega)
                  have HA6 := Lib.hid (show HB ≤ (u5.alloc (.cells rs5.toArray 34)).heap.size from Nat.le_trans L9.out.ret.size (by rw [World.size_alloc u5]; exact Nat.le_succ _))
                  have z15 : u5.cell? ⟨q, 15, none⟩ = some v := by
                    have := row_range t1 15 v t6
                    rwa [Nat.zero_add] at this
                  have hfz := fold_zip0 rs5 #[.int .i64 0, .string ⟨#[]⟩, .int .i64 0, .bool false, .bool false, .string ⟨#[]⟩, .int .i64 0, .int .i64 0, .int .i64 0, .int .i64 0, .int .i64 0, .string ⟨#[]⟩, .slice none 0 0, .slice none 0 0, .slice none 0 0, .slice none 0 0, .slice none 0 0] (by rw [hl5]; rfl)
                  have HL5 := Lib.hid (show rs5.length = 1 * 17 from hl5)
                  clear t1 t2 t3 t4 t5 t6 t7 hHeld
                  go_wp2_with (first
                    | (at_builtin; refine wpList_append_src rfl _ _ 31 rfl HB 34 i0 (.agg z0) 17 240 Tryz.underlying31 HI0.out HZ0.out HZ1.out HZ2.out HZS.out (by decide) v k xr rfl (HX7.out.alloc _) (some ⟨u5.heap.size, 0, none⟩) 1 1 rs5 rfl HL5.out (src_new _ rs5 34 1) HA3.out HA4.out HA5.out HA6.out ?_)
                    | (refine wpList_load_mid rfl 34 _ rfl q5 0 rfl rs5 _ HBY.out Tryz.underlying34 rfl hl53.out ?_))
                  intro v6 u6 hown6 hg6
                  obtain ⟨a6, c6, rfl⟩ := own_slice38 hown6
                  obtain ⟨l6, f6, g6⟩ := L9.out.grow HMB.out hq4 (by omega) (by omega) HX1.out HX2.out HX3.out HX4.out (fun h => absurd h (by decide)) HX6.out HX7.out hown6 hg6
                  have L6 := Lib.hid l6
                  clear hown6 hg6 l6 z15 hfz hl5
                  go_wp2_with fail
                  go_roundw
                case rel => exact ⟨k + 1, by omega, by go_num, L6⟩
                case measure => simp [intOf]; omega
                case rel => exact ⟨k + 1, by omega, by go_num, L6⟩
                case measure => simp [intOf]; omega
                case rel => exact ⟨k + 1, by omega, by go_num, L6⟩
                case measure => simp [intOf]; omega
              case neg =>
                obtain rfl : k = x.args.length := by omega
                obtain ⟨rs, i, v, xr, t1, t2, t3, t4, t5, t6, t7⟩ := LR.out.ret.has
                have HX1 := Lib.hid (row_range t1)
                have hs17 := Lib.hid (show (Tryz.prog.info? 34).map (·.size) = some rs.length by rw [t2]; exact sizeE)
                have hs18 := Lib.hid (show (Tryz.prog.info? 34).map (·.size) = some rs.toArray.size by rw [List.size_toArray, t2]; exact sizeE)
                have h17 := Lib.hid (show zeroEl.toArray.size = rs.toArray.size by simp only [List.size_toArray, t2]; rfl)
                have HX2 := Lib.hid t2
                have HX3 := Lib.hid t3
                have Q0 := Lib.hid LR.out.vis.out
                clear t1 t2 t3 t4 t5 t6 t7 d15
                go_wp2_with (first
                  | (refine wpList_load_mid rfl 34 _ rfl q 0 rfl rs _ HX1.out Tryz.underlying34 rfl hs17.out ?_)
                  | (refine wpList_store_row rfl 34 _ _ rfl (w.heap.size + 3) rs.toArray rfl rfl 34 zeroEl.toArray Q0.out hs18.out h17.out HX3.out ?_))
                have Z7 := setRow_heap wR (w.heap.size + 3) _ rs.toArray _ _ Q0.out
                refine bodyPost_ret (results_cell_row2 rfl _ _ (w.heap.size + 1 + 1 + 1) 34 _ (0, 0) _ rfl Z7 Tryz.underlying34 rfl hs18.out) rfl ?_
                exact ⟨rs, rfl, HX2.out, HX3.out, by rw [← HR.out]; exact LR.out.set.block (setRow_other wR (w.heap.size + 3) mb rs.toArray (by have := HMB.out; omega)), FBB.fb (LR.out.vis.fb.trans (FBB.setRow _ _ (by omega)))⟩
theorem wlk_all (sb mb m : Nat) : ∀ x, gdE m x → WlkX sb mb x (frE m x) (ndE m x) ((m + 1) * 2097152) := by
  induction m with
  | zero =>
    intro x h
    obtain ⟨hq, ha, hf⟩ := h
    have h := wlk_step sb mb (fun _ _ => []) (fun _ => 0) 0 x hq (fun k h => by rw [ha] at h; simp at h) (fun k h => by rw [hf] at h; simp at h) (fun k h => by rw [ha] at h; simp at h) (fun k h => by rw [hf] at h; simp at h)
    rw [ha, hf] at h
    have e : (fun vs => ndV x vs ++ frF (fun _ _ => []) x vs ([] : List FuncD).length ++ frA (fun _ _ => []) x vs ([] : List ExprD).length) = frE 0 x := by
      funext vs
      show ndV x vs ++ frF _ x vs 0 ++ frA _ x vs 0 = ndV x vs
      rw [frF_0, frA_0]
      simp
    rw [e] at h
    simpa [ndE] using h
  | succ m ih =>
    intro x h
    have h1 := wlk_step sb mb (frE m) (ndE m) ((m + 1) * 2097152) x h.1 (fun k hk => ih _ (h.2.1 _ (List.getElem_mem hk))) (fun k hk => ih _ (h.2.2 _ (List.getElem_mem hk))) (fun k hk vs => frE_len m _ vs) (fun k hk vs => frE_len m _ vs)
    have e : (m + 1) * 2097152 + 2097152 = (m + 1 + 1) * 2097152 := by omega
    rw [e] at h1
    exact h1
end Go.Proofs.YtfegnmbdgdjkgaaGreat
