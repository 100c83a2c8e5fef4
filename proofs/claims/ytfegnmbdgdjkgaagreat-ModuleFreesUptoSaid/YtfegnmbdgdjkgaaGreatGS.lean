/- The reference's scopes (datakitref38.scope's methods). -/
import Derived.Test.YtfegnmbdgdjkgaaGreatRfs38
import Derived.Test.YtfegnmbdgdjkgaaGreatGI
import Derived.Deep.RegionHeld3
import Derived.StillTailTactics
namespace Go.Proofs.YtfegnmbdgdjkgaaGreat
open Go.RowKit

def ScR (lo K : Nat) (d : ScD) (w : World) (e : Ending) (w' : World) : Prop := ∃ cs, e = .returned (.agg cs.toArray) ∧ ScD.At w' lo w'.heap.size K d cs ∧ Below w.heap.size w w'
/-- A box of a parameter, and behind it the result's cell. -/
structure Box2 (w u : World) (cs zs : List Value) (t : TypeId) : Prop where
  row : CellsAt u w.heap.size 0 cs
  out : u.heap[w.heap.size + 1]? = some (.cells zs.toArray t (0, 0))
  low : Below w.heap.size w u
  size : w.heap.size + 2 ≤ u.heap.size
theorem Box2.start (w : World) (cs zs : List Value) (t1 t : TypeId) : Box2 w ((w.alloc (.cells cs.toArray t1)).alloc (.cells zs.toArray t)) cs zs t := by
  refine ⟨(box_at w cs t1).then (belowBox _ _) (by rw [World.size_alloc]; omega), ?_, belowThen (belowBox w _) (belowBox _ _), by simp only [World.size_alloc]; omega⟩
  have h := heap_alloc_new (w.alloc (.cells cs.toArray t1)) (.cells zs.toArray t)
  rw [World.size_alloc] at h
  exact h
theorem Box2.below {w u u' : World} {cs zs : List Value} {t : TypeId} (h : Box2 w u cs zs t) (hb : Below u.heap.size u u') : Box2 w u' cs zs t :=
  ⟨h.row.then hb (by have := h.size; omega), (hb.block _ (by have := h.size; omega)).trans h.out, belowThen h.low hb, Nat.le_trans h.size hb.size⟩
theorem Box2.below2 {w u u' : World} {cs zs : List Value} {t : TypeId} (h : Box2 w u cs zs t) (hb : Below (w.heap.size + 2) u u') : Box2 w u' cs zs t :=
  ⟨h.row.below hb (by omega), (hb.block _ (by omega)).trans h.out, h.low.trans (hb.mono (by omega)), Nat.le_trans h.size hb.size⟩
theorem Box2.drew {w u : World} {cs zs : List Value} {t : TypeId} (h : Box2 w u cs zs t) : Box2 w u.drew cs zs t := h.below ⟨rfl, rfl, rfl, Nat.le_refl _, fun _ _ => rfl⟩
/-- The same, whatever the result's cell holds. -/
def Box2E (w u : World) (cs : List Value) (n : Nat) (t : TypeId) : Prop := ∃ zs : List Value, zs.length = n ∧ Box2 w u cs zs t
theorem Box2E.below {w u u' : World} {cs : List Value} {n : Nat} {t : TypeId} (h : Box2E w u cs n t) (hb : Below u.heap.size u u') : Box2E w u' cs n t := by
  obtain ⟨zs, hz, h⟩ := h
  exact ⟨zs, hz, h.below hb⟩
theorem Box2E.row {w u : World} {cs : List Value} {n : Nat} {t : TypeId} (h : Box2E w u cs n t) : CellsAt u w.heap.size 0 cs := by
  obtain ⟨zs, hz, h⟩ := h
  exact h.row
theorem Box2E.low {w u : World} {cs : List Value} {n : Nat} {t : TypeId} (h : Box2E w u cs n t) : Below w.heap.size w u := by
  obtain ⟨zs, hz, h⟩ := h
  exact h.low
theorem Box2E.size {w u : World} {cs : List Value} {n : Nat} {t : TypeId} (h : Box2E w u cs n t) : w.heap.size + 2 ≤ u.heap.size := by
  obtain ⟨zs, hz, h⟩ := h
  exact h.size
theorem Box2E.set {w u : World} {cs : List Value} {n : Nat} {t : TypeId} (h : Box2E w u cs n t) (ds : List Value) : Box2 w (u.setRow (w.heap.size + 1) ds.toArray) cs ds t := by
  obtain ⟨zs, hz, h⟩ := h
  have hk : ∀ k, k ≠ w.heap.size + 1 → (u.setRow (w.heap.size + 1) ds.toArray).heap[k]? = u.heap[k]? := fun k hk => setRow_other _ _ _ _ (by omega)
  refine ⟨fun j hj => ?_, setRow_heap _ _ _ _ _ _ h.out, below_setRow h.low (by omega) _, by have := h.size; simpa using this⟩
  rw [← h.row j hj]
  simp only [World.cell?]
  rw [hk _ (by omega)]
theorem one3 (a b c : Option Addr) (i j k m n o : Nat) : (#[Value.slice a i j, Value.slice b k m, Value.slice c n o] : Array Value).all (·.oneCell') = true :=
  Go.all_oneCell_toArray (cs := [.slice a i j, .slice b k m, .slice c n o]) (fun v hv => by
    simp only [List.mem_cons, List.mem_nil_iff, or_false] at hv
    rcases hv with rfl | rfl | rfl <;> rfl)
theorem kept_row {w u : World} {lo B : Nat} (cs : Array Value) (h : B ≤ w.heap.size + 1 ∨ w.heap.size + 2 ≤ lo) : Kept lo B u (u.setRow (w.heap.size + 1) cs) := fun k h1 h2 => setRow_other _ _ _ _ (by omega)
theorem more_n (l : List ByteArray) (n : Nat) (hn : l.length = n) (s : ByteArray) (a : Option Addr) (c : Nat) (w : World) (lo1 lo B : Nat) (hl : l.length ≤ 1099511627776) (hB : B ≤ w.heap.size) (hlo : lo ≤ w.heap.size) (h : NmsAt w lo1 B l a) :
    Calls Tryz.prog 79 #[.slice a n c, .string s] w (NmsR lo (l ++ [s]) w) := by
  subst hn
  exact more_r l s a c w lo1 lo B hl hB hlo h
abbrev zero3 : List Value := [.slice none 0 0, .slice none 0 0, .slice none 0 0]
set_option maxRecDepth 100000 in
set_option maxHeartbeats 3200000 in
theorem variable_r (d : ScD) (s : ByteArray) (cs : List Value) (w : World) (lo B C : Nat) (hC : C ≤ 1073741824) (hB : B ≤ w.heap.size) (hlo : lo ≤ w.heap.size) (h : ScD.At w lo B C d cs) :
    Calls Tryz.prog 60 #[.agg cs.toArray, .string s] w (ScR lo (C + 1) ⟨d.vs ++ [s], d.ls, d.gs⟩ w) := by
  obtain ⟨va, la, ga, vc, lc, gc, rfl, hv, hls, hg, k1, k2, k3⟩ := h
  have HV := Lib.hid hv
  have HL := Lib.hid hls
  have HG := Lib.hid hg
  obtain ⟨nv, hnv⟩ : ∃ n, d.vs.length = n := ⟨_, rfl⟩
  obtain ⟨nl, hnl⟩ : ∃ n, d.ls.length = n := ⟨_, rfl⟩
  obtain ⟨ng, hng⟩ : ∃ n, d.gs.length = n := ⟨_, rfl⟩
  have HNV := Lib.hid hnv
  have HNL := Lib.hid hnl
  have HNG := Lib.hid hng
  have K1 := Lib.hid k1
  have K2 := Lib.hid k2
  have K3 := Lib.hid k3
  rw [hnv, hnl, hng]
  clear hv hls hg hnv hnl hng k1 k2 k3
  go_enter Tryz.func60, Tryz.ntmps60
  go_wp2_with fail
  have B0 := Lib.hid (Box2.start w [.slice va nv vc, .slice la nl lc, .slice ga ng gc] zero3 59 59)
  refine wp_region_held_drew (S := fun u => Box2E w u [.slice va nv vc, .slice la nl lc, .slice ga ng gc] 3 59) (by kernel_rfl) ⟨_, rfl, B0.out.drew⟩ (fun hHeld => ?_)
  refine' wpAnyH_take (i := 0) (v := .pointer (some ⟨w.heap.size, 0, none⟩)) rfl (by kernel_rfl) (by kernel_rfl) (by kernel_rfl) (fun _ _ _ h => h) (.inl ⟨by rfl, fun u hu => (by go_simp)⟩) hHeld ?_
  simp only [Act.put, List.setIfInBounds_toArray]
  refine' wpAnyH_take (i := 1) (v := .slice va nv vc) rfl (by kernel_rfl) (by kernel_rfl) (by kernel_rfl) (fun _ _ _ h => h) (.inl ⟨by rfl, fun u hu => (by have hc := hu.row.get0 (j := 0) rfl; go_simp)⟩) hHeld ?_
  simp only [Act.put]
  refine' wpAnyH_take (i := 2) (v := .string s) rfl (by kernel_rfl) (by kernel_rfl) (by kernel_rfl) (fun _ _ _ h => h) (.inl ⟨by rfl, fun u hu => (by go_simp)⟩) hHeld ?_
  simp only [Act.put]
  refine' wpAnyH_take (i := 4) (v := .pointer (some ⟨w.heap.size, 1, none⟩)) rfl (by kernel_rfl) (by kernel_rfl) (by kernel_rfl) (fun _ _ _ h => h) (.inl ⟨by rfl, fun u hu => (by go_simp)⟩) hHeld ?_
  simp only [Act.put]
  refine' wpAnyH_take (i := 5) (v := .slice la nl lc) rfl (by kernel_rfl) (by kernel_rfl) (by kernel_rfl) (fun _ _ _ h => h) (.inl ⟨by rfl, fun u hu => (by have hc := hu.row.get0 (j := 1) rfl; go_simp)⟩) hHeld ?_
  simp only [Act.put]
  refine' wpAnyH_take (i := 6) (v := .pointer (some ⟨w.heap.size, 2, none⟩)) rfl (by kernel_rfl) (by kernel_rfl) (by kernel_rfl) (fun _ _ _ h => h) (.inl ⟨by rfl, fun u hu => (by go_simp)⟩) hHeld ?_
  simp only [Act.put]
  refine' wpAnyH_take (i := 7) (v := .slice ga ng gc) rfl (by kernel_rfl) (by kernel_rfl) (by kernel_rfl) (fun _ _ _ h => h) (.inl ⟨by rfl, fun u hu => (by have hc := hu.row.get0 (j := 2) rfl; go_simp)⟩) hHeld ?_
  simp only [Act.put]
  refine wpAnyH_ready (rs := [3]) (by kernel_rfl) (by simp) ?_
  refine AllReadyH.cons rfl (fun K hK => ?_) AllReadyH.nil
  go_simp
  refine (more_n d.vs nv HNV.out s va vc _ lo (w.heap.size + 2) B (by have := K1.out; omega) (Nat.le_trans hB hHeld.low.size) hHeld.size (HV.out.keep (Kept.of_below (hHeld.low.mono hB)))).mono ?_
  rintro e u1 ⟨a1, c1, rfl, _, _, hn1, hb1⟩
  have N1 := Lib.hid hn1
  have HB1 := Lib.hid (hHeld.below hb1)
  obtain ⟨m1, hm1⟩ : ∃ m, (d.vs ++ [s]).length = m := ⟨_, rfl⟩
  have HM1 := Lib.hid hm1
  rw [hm1]
  refine hK.out _ _ HB1.out (fun hHeld1 => ?_)
  clear hK K hHeld hb1 hn1 hm1
  refine wpAnyH_ready (rs := [8]) (by kernel_rfl) (by simp) ?_
  refine AllReadyH.cons rfl (fun K hK => ?_) AllReadyH.nil
  go_simp
  refine hK.out _ _ hHeld1 (fun hHeldx => ?_)
  clear hK K hHeldx
  refine wpAnyH_ready (rs := [9]) (by kernel_rfl) (by simp) ?_
  refine AllReadyH.cons rfl (fun K hK => ?_) AllReadyH.nil
  rw [if_pos (by kernel_rfl)]
  obtain ⟨zs, hzs, hb2⟩ := hHeld1
  refine wp_store_row 59 _ _ rfl (w.heap.size + 1) #[.slice a1 m1 c1, .slice la nl lc, .slice ga ng gc] rfl rfl 59 _ hb2.out (by kernel_rfl) (by rw [List.size_toArray, hzs]; rfl) (one3 ..) ?_
  have hset := Box2E.set (n := 3) ⟨zs, hzs, hb2⟩ [.slice a1 m1 c1, .slice la nl lc, .slice ga ng gc]
  have HSET := Lib.hid hset
  have HSZ := Lib.hid (show (u1.setRow (w.heap.size + 1) #[.slice a1 m1 c1, .slice la nl lc, .slice ga ng gc]).heap.size = u1.heap.size by simp)
  refine hK.out _ _ ⟨_, rfl, hset⟩ (fun _ => ?_)
  clear hK K hset
  refine wpAnyH_done (by kernel_rfl) ?_ _
  go_wp2_with fail
  refine bodyPost_ret (results_cell_row rfl _ _ (w.heap.size + 1) 59 _ (0, 0) _ rfl HSET.out.out Tryz.underlying59 rfl (by kernel_rfl)) rfl ?_
  have hlow : ∀ u, Below w.heap.size w u → Kept lo B w u := fun u hu => Kept.of_below (hu.mono hB)
  have HL2 := (HL.out.keep (hlow _ HSET.out.low))
  have HG2 := (HG.out.keep (hlow _ HSET.out.low))
  have hsz := HSET.out.size
  refine ⟨[.slice a1 m1 c1, .slice la nl lc, .slice ga ng gc], rfl, ⟨a1, la, ga, c1, lc, gc, by rw [HM1.out, HNL.out, HNG.out], ?_, HL2.mono (by omega), HG2.mono (by omega), ?_, ?_, ?_⟩, HSET.out.low⟩
  · have h1 := (N1.out.keep (kept_row (w := w) #[.slice a1 m1 c1, .slice la nl lc, .slice ga ng gc] (.inr (Nat.le_refl _)))).less (show lo ≤ w.heap.size + 2 by omega)
    exact h1.mono (Nat.le_of_eq HSZ.out.symm)
  · have := K1.out
    rw [List.length_append]
    show d.vs.length + 1 ≤ C + 1
    omega
  · have := K2.out
    show d.ls.length ≤ C + 1
    omega
  · have := K3.out
    show d.gs.length ≤ C + 1
    omega
set_option maxRecDepth 100000 in
set_option maxHeartbeats 3200000 in
theorem label_r (d : ScD) (s : ByteArray) (cs : List Value) (w : World) (lo B C : Nat) (hC : C ≤ 1073741824) (hB : B ≤ w.heap.size) (hlo : lo ≤ w.heap.size) (h : ScD.At w lo B C d cs) :
    Calls Tryz.prog 62 #[.agg cs.toArray, .string s] w (ScR lo (C + 1) ⟨d.vs, d.ls ++ [s], d.gs⟩ w) := by
  obtain ⟨va, la, ga, vc, lc, gc, rfl, hv, hls, hg, k1, k2, k3⟩ := h
  have HV := Lib.hid hv
  have HL := Lib.hid hls
  have HG := Lib.hid hg
  obtain ⟨nv, hnv⟩ : ∃ n, d.vs.length = n := ⟨_, rfl⟩
  obtain ⟨nl, hnl⟩ : ∃ n, d.ls.length = n := ⟨_, rfl⟩
  obtain ⟨ng, hng⟩ : ∃ n, d.gs.length = n := ⟨_, rfl⟩
  have HNV := Lib.hid hnv
  have HNL := Lib.hid hnl
  have HNG := Lib.hid hng
  have K1 := Lib.hid k1
  have K2 := Lib.hid k2
  have K3 := Lib.hid k3
  rw [hnv, hnl, hng]
  clear hv hls hg hnv hnl hng k1 k2 k3
  go_enter Tryz.func62, Tryz.ntmps62
  go_wp2_with fail
  have B0 := Lib.hid (Box2.start w [.slice va nv vc, .slice la nl lc, .slice ga ng gc] zero3 59 59)
  refine wp_region_held_drew (S := fun u => Box2E w u [.slice va nv vc, .slice la nl lc, .slice ga ng gc] 3 59) (by kernel_rfl) ⟨_, rfl, B0.out.drew⟩ (fun hHeld => ?_)
  refine' wpAnyH_take (i := 0) (v := .pointer (some ⟨w.heap.size, 0, none⟩)) rfl (by kernel_rfl) (by kernel_rfl) (by kernel_rfl) (fun _ _ _ h => h) (.inl ⟨by rfl, fun u hu => (by go_simp)⟩) hHeld ?_
  simp only [Act.put, List.setIfInBounds_toArray]
  refine' wpAnyH_take (i := 1) (v := .slice va nv vc) rfl (by kernel_rfl) (by kernel_rfl) (by kernel_rfl) (fun _ _ _ h => h) (.inl ⟨by rfl, fun u hu => (by have hc := hu.row.get0 (j := 0) rfl; go_simp)⟩) hHeld ?_
  simp only [Act.put]
  refine' wpAnyH_take (i := 2) (v := .pointer (some ⟨w.heap.size, 1, none⟩)) rfl (by kernel_rfl) (by kernel_rfl) (by kernel_rfl) (fun _ _ _ h => h) (.inl ⟨by rfl, fun u hu => (by go_simp)⟩) hHeld ?_
  simp only [Act.put]
  refine' wpAnyH_take (i := 3) (v := .slice la nl lc) rfl (by kernel_rfl) (by kernel_rfl) (by kernel_rfl) (fun _ _ _ h => h) (.inl ⟨by rfl, fun u hu => (by have hc := hu.row.get0 (j := 1) rfl; go_simp)⟩) hHeld ?_
  simp only [Act.put]
  refine' wpAnyH_take (i := 4) (v := .string s) rfl (by kernel_rfl) (by kernel_rfl) (by kernel_rfl) (fun _ _ _ h => h) (.inl ⟨by rfl, fun u hu => (by go_simp)⟩) hHeld ?_
  simp only [Act.put]
  refine' wpAnyH_take (i := 6) (v := .pointer (some ⟨w.heap.size, 2, none⟩)) rfl (by kernel_rfl) (by kernel_rfl) (by kernel_rfl) (fun _ _ _ h => h) (.inl ⟨by rfl, fun u hu => (by go_simp)⟩) hHeld ?_
  simp only [Act.put]
  refine' wpAnyH_take (i := 7) (v := .slice ga ng gc) rfl (by kernel_rfl) (by kernel_rfl) (by kernel_rfl) (fun _ _ _ h => h) (.inl ⟨by rfl, fun u hu => (by have hc := hu.row.get0 (j := 2) rfl; go_simp)⟩) hHeld ?_
  simp only [Act.put]
  refine wpAnyH_ready (rs := [5]) (by kernel_rfl) (by simp) ?_
  refine AllReadyH.cons rfl (fun K hK => ?_) AllReadyH.nil
  go_simp
  refine (more_n d.ls nl HNL.out s la lc _ lo (w.heap.size + 2) B (by have := K2.out; omega) (Nat.le_trans hB hHeld.low.size) hHeld.size (HL.out.keep (Kept.of_below (hHeld.low.mono hB)))).mono ?_
  rintro e u1 ⟨a1, c1, rfl, _, _, hn1, hb1⟩
  have N1 := Lib.hid hn1
  have HB1 := Lib.hid (hHeld.below hb1)
  obtain ⟨m1, hm1⟩ : ∃ m, (d.ls ++ [s]).length = m := ⟨_, rfl⟩
  have HM1 := Lib.hid hm1
  rw [hm1]
  refine hK.out _ _ HB1.out (fun hHeld1 => ?_)
  clear hK K hHeld hb1 hn1 hm1
  refine wpAnyH_ready (rs := [8]) (by kernel_rfl) (by simp) ?_
  refine AllReadyH.cons rfl (fun K hK => ?_) AllReadyH.nil
  go_simp
  refine hK.out _ _ hHeld1 (fun hHeldx => ?_)
  clear hK K hHeldx
  refine wpAnyH_ready (rs := [9]) (by kernel_rfl) (by simp) ?_
  refine AllReadyH.cons rfl (fun K hK => ?_) AllReadyH.nil
  rw [if_pos (by kernel_rfl)]
  obtain ⟨zs, hzs, hb2⟩ := hHeld1
  refine wp_store_row 59 _ _ rfl (w.heap.size + 1) #[.slice va nv vc, .slice a1 m1 c1, .slice ga ng gc] rfl rfl 59 _ hb2.out (by kernel_rfl) (by rw [List.size_toArray, hzs]; rfl) (one3 ..) ?_
  have hset := Box2E.set (n := 3) ⟨zs, hzs, hb2⟩ [.slice va nv vc, .slice a1 m1 c1, .slice ga ng gc]
  have HSET := Lib.hid hset
  have HSZ := Lib.hid (show (u1.setRow (w.heap.size + 1) #[.slice va nv vc, .slice a1 m1 c1, .slice ga ng gc]).heap.size = u1.heap.size by simp)
  refine hK.out _ _ ⟨_, rfl, hset⟩ (fun _ => ?_)
  clear hK K hset
  refine wpAnyH_done (by kernel_rfl) ?_ _
  go_wp2_with fail
  refine bodyPost_ret (results_cell_row rfl _ _ (w.heap.size + 1) 59 _ (0, 0) _ rfl HSET.out.out Tryz.underlying59 rfl (by kernel_rfl)) rfl ?_
  have hlow : ∀ u, Below w.heap.size w u → Kept lo B w u := fun u hu => Kept.of_below (hu.mono hB)
  have HL2 := (HV.out.keep (hlow _ HSET.out.low))
  have HG2 := (HG.out.keep (hlow _ HSET.out.low))
  have hsz := HSET.out.size
  refine ⟨[.slice va nv vc, .slice a1 m1 c1, .slice ga ng gc], rfl, ⟨va, a1, ga, vc, c1, gc, by rw [HM1.out, HNV.out, HNG.out], HL2.mono (by omega), ?_, HG2.mono (by omega), ?_, ?_, ?_⟩, HSET.out.low⟩
  · have h1 := (N1.out.keep (kept_row (w := w) #[.slice va nv vc, .slice a1 m1 c1, .slice ga ng gc] (.inr (Nat.le_refl _)))).less (show lo ≤ w.heap.size + 2 by omega)
    exact h1.mono (Nat.le_of_eq HSZ.out.symm)
  · have := K1.out
    show d.vs.length ≤ C + 1
    omega
  · have := K2.out
    rw [List.length_append]
    show d.ls.length + 1 ≤ C + 1
    omega
  · have := K3.out
    show d.gs.length ≤ C + 1
    omega
theorem infoSg : (Tryz.prog.info? 126).map (fun i => (i.zero, i.size, i.bytes)) = some (some (.agg #[.string ⟨#[]⟩, .int .i64 0]), 2, 24) := by kernel_rfl
theorem sgs_one (l : List (ByteArray × Int)) : ∀ u ∈ (l.flatMap fun x => [Value.string x.1, .int .i64 x.2]), u.oneCell' = true := fun u hu => by
  obtain ⟨x, _, hx⟩ := List.mem_flatMap.1 hu
  simp only [List.mem_cons, List.mem_nil_iff, or_false] at hx
  rcases hx with rfl | rfl <;> rfl
set_option maxRecDepth 100000 in
set_option maxHeartbeats 3200000 in
theorem function_r (d : ScD) (s : ByteArray) (n : Int) (cs : List Value) (w : World) (lo B C : Nat) (hC : C ≤ 1073741824) (hB : B ≤ w.heap.size) (hlo : lo ≤ w.heap.size) (h : ScD.At w lo B C d cs) :
    Calls Tryz.prog 61 #[.agg cs.toArray, .string s, .int .i64 n] w (ScR lo (C + 1) ⟨d.vs, d.ls, d.gs ++ [(s, n)]⟩ w) := by
  obtain ⟨i0, hi, hz0, hz1, hz2⟩ := info_parts infoSg
  have HI := Lib.hid hi
  have HZ0 := Lib.hid hz0
  have HZ1 := Lib.hid hz1
  have HZ2 := Lib.hid hz2
  clear hi hz0 hz1 hz2
  obtain ⟨va, la, ga, vc, lc, gc, rfl, hv, hls, hg, k1, k2, k3⟩ := h
  have HV := Lib.hid hv
  have HL := Lib.hid hls
  have HG := Lib.hid hg
  obtain ⟨nv, hnv⟩ : ∃ n, d.vs.length = n := ⟨_, rfl⟩
  obtain ⟨nl, hnl⟩ : ∃ n, d.ls.length = n := ⟨_, rfl⟩
  obtain ⟨ng, hng⟩ : ∃ n, d.gs.length = n := ⟨_, rfl⟩
  have HNV := Lib.hid hnv
  have HNL := Lib.hid hnl
  have HNG := Lib.hid hng
  have K1 := Lib.hid k1
  have K2 := Lib.hid k2
  have K3 := Lib.hid k3
  have hngC : ng ≤ C := by omega
  have HSRC := Lib.hid (show ∀ u, Below w.heap.size w u → SrcAt u ga ng (d.gs.flatMap fun x => [Value.string x.1, .int .i64 x.2]) from fun u hu => by
    rw [← hng]; exact (hg.keep (Kept.of_below (hu.mono hB))).src)
  have HLEN := Lib.hid (show (d.gs.flatMap fun x => [Value.string x.1, .int .i64 x.2]).length = ng * 2 by rw [← hng]; exact sgs_len _)
  rw [hnv, hnl, hng]
  clear hv hls hg hnv hnl hng k1 k2 k3
  have B0 := Lib.hid (Box2.start w [.slice va nv vc, .slice la nl lc, .slice ga ng gc] zero3 59 59)
  have b0 := B0.out.row.get0 (j := 0) (v := .slice va nv vc) rfl
  have b1 := B0.out.row.get0 (j := 1) (v := .slice la nl lc) rfl
  have b2 := B0.out.row.get0 (j := 2) (v := .slice ga ng gc) rfl
  go_enter Tryz.func61, Tryz.ntmps61
  go_wp2_with (at_builtin; refine wpList_append_src rfl _ _ 57 rfl (w.heap.size + 2) 126 i0 (.agg #[.string ⟨#[]⟩, .int .i64 0]) 2 24 Tryz.underlying57 HI.out HZ0.out HZ1.out HZ2.out rfl (by decide) _ 0 [] rfl ?own ga ng gc (d.gs.flatMap fun x => [Value.string x.1, .int .i64 x.2]) rfl HLEN.out ?src (sgs_one _) ?c4 ?c5 ?c6 ?_)
  case own =>
    have h := World.ownsRow_made (e := 126) (size := 2) (base := w.heap.size + 2) ((w.alloc (.cells #[.slice va nv vc, .slice la nl lc, .slice ga ng gc] 59)).alloc (.cells zero3.toArray 59)) #[] 0 B0.out.size (Nat.zero_le _) rfl
    simp only [World.size_alloc] at h
    exact h
  case src => exact HSRC.out _ (belowThen B0.out.low (belowBox _ _))
  case c4 => unfold maxLen; omega
  case c5 => omega
  case c6 => simp only [World.size_alloc]; omega
  intro v1 w1 hown1 hgrow1
  have HO1 := Lib.hid hown1
  have B1 := Lib.hid (B0.out.below2 ((show Below (w.heap.size + 2) _ _ from (belowBox _ _).mono B0.out.size).grown hgrow1 (by simp only [World.size_alloc]; omega) (by intro k hk; simp [Value.ownBlock] at hk; omega)))
  have hs1 := B1.out.size
  clear hown1 hgrow1 b0 b1 b2
  go_wp2_with (at_builtin; refine wpList_append_src rfl _ _ 57 rfl (w.heap.size + 2) 126 i0 (.agg #[.string ⟨#[]⟩, .int .i64 0]) 2 24 Tryz.underlying57 HI.out HZ0.out HZ1.out HZ2.out rfl (by decide) _ _ _ rfl (HO1.out.alloc _) (some ⟨w1.heap.size, 0, none⟩) 1 1 [.string s, .int .i64 n] rfl rfl (src_new w1 [.string s, .int .i64 n] 126 1) ?e3 ?e4 ?e5 ?e6 ?_)
  case e3 => intro u hu; simp only [List.mem_cons, List.mem_nil_iff, or_false] at hu; rcases hu with rfl | rfl <;> rfl
  case e4 => unfold maxLen; omega
  case e5 => omega
  case e6 => rw [World.size_alloc]; omega
  intro v2 w2 hown2 hgrow2
  have HO2 := Lib.hid hown2
  have B2 := Lib.hid (B1.out.below2 ((show Below (w.heap.size + 2) _ _ from (belowBox w1 _).mono hs1).grown hgrow2 (by rw [World.size_alloc]; omega) (fun k hk => (HO1.out.lt k hk).1)))
  have hs2 := B2.out.size
  clear hown2 hgrow2
  obtain ⟨g2, c2, rfl, _, _, hn2⟩ := sgs_own (l := d.gs ++ [(s, n)]) (lo := w.heap.size + 2) (by simpa [HNG.out] using HO2.out) (Nat.le_refl _)
  have N2 := Lib.hid hn2
  obtain ⟨m2, hm2⟩ : ∃ m, (d.gs ++ [(s, n)]).length = m := ⟨_, rfl⟩
  have HM2 := Lib.hid hm2
  rw [hm2]
  have b0 := B2.out.row.get0 (j := 0) (v := .slice va nv vc) rfl
  have b1 := B2.out.row.get0 (j := 1) (v := .slice la nl lc) rfl
  clear hn2 hm2 HO2
  go_wp2_with (refine wpList_store_row rfl 59 _ _ rfl (w.heap.size + 1) #[.slice va nv vc, .slice la nl lc, .slice g2 m2 c2] rfl rfl 59 _ B2.out.out (by kernel_rfl) rfl (one3 ..) ?_)
  have HSET := Lib.hid (Box2E.set (n := 3) ⟨_, rfl, B2.out⟩ [.slice va nv vc, .slice la nl lc, .slice g2 m2 c2])
  have HSZ := Lib.hid (show (w2.setRow (w.heap.size + 1) #[.slice va nv vc, .slice la nl lc, .slice g2 m2 c2]).heap.size = w2.heap.size by simp)
  refine bodyPost_ret (results_cell_row rfl _ _ (w.heap.size + 1) 59 _ (0, 0) _ rfl HSET.out.out Tryz.underlying59 rfl (by kernel_rfl)) rfl ?_
  have hlow : ∀ u, Below w.heap.size w u → Kept lo B w u := fun u hu => Kept.of_below (hu.mono hB)
  have HV2 := (HV.out.keep (hlow _ HSET.out.low))
  have HL2 := (HL.out.keep (hlow _ HSET.out.low))
  have hsz := HSET.out.size
  refine ⟨[.slice va nv vc, .slice la nl lc, .slice g2 m2 c2], rfl, ⟨va, la, g2, vc, lc, c2, by rw [HM2.out, HNV.out, HNL.out], HV2.mono (by omega), HL2.mono (by omega), ?_, ?_, ?_, ?_⟩, HSET.out.low⟩
  · have h1 := (N2.out.keep (kept_row (w := w) #[.slice va nv vc, .slice la nl lc, .slice g2 m2 c2] (.inr (Nat.le_refl _)))).less (show lo ≤ w.heap.size + 2 by omega)
    exact h1.mono (Nat.le_of_eq HSZ.out.symm)
  · have := K1.out
    show d.vs.length ≤ C + 1
    omega
  · have := K2.out
    show d.ls.length ≤ C + 1
    omega
  · have := K3.out
    rw [List.length_append]
    show d.gs.length + 1 ≤ C + 1
    omega
end Go.Proofs.YtfegnmbdgdjkgaaGreat

/- The reference's scopes: functions, params, within. -/
namespace Go.Proofs.YtfegnmbdgdjkgaaGreat
open Go.RowKit

theorem NmsAt.setRow {u : World} {lo B : Nat} {l : List ByteArray} {a : Option Addr} (h : NmsAt u lo B l a) {q : Nat} {x : Option Addr} {n c : Nat} (hq : u.cell? ⟨q, 0, none⟩ = some (.slice x n c)) (ds : Array Value) : NmsAt (u.setRow q ds) lo B l a := by
  rcases h with h | ⟨b, h1, h2, h3, h4⟩
  · exact .inl h
  · cases hl : l with
    | nil => exact .inl rfl
    | cons y r =>
      have h0 := h4 0 y (by rw [hl]; rfl)
      have hb : b ≠ q := fun e => by
        subst e
        rw [hq] at h0
        cases h0
      rw [← hl]
      refine .inr ⟨b, h1, h2, h3, fun j z hz => ?_⟩
      rw [← h4 j z hz]
      simp only [World.cell?]
      rw [setRow_other _ _ _ _ (by omega)]
theorem SgsAt.setRow {u : World} {lo B : Nat} {l : List (ByteArray × Int)} {a : Option Addr} (h : SgsAt u lo B l a) {q : Nat} {x : Option Addr} {n c : Nat} (hq : u.cell? ⟨q, 0, none⟩ = some (.slice x n c)) (ds : Array Value) : SgsAt (u.setRow q ds) lo B l a := by
  rcases h with h | ⟨b, h1, h2, h3, h4⟩
  · exact .inl h
  · cases hl : l with
    | nil => exact .inl rfl
    | cons y r =>
      have h0 := h4 0 (.string y.1) (by rw [hl]; rfl)
      have hb : b ≠ q := fun e => by
        subst e
        rw [hq] at h0
        cases h0
      rw [← hl]
      refine .inr ⟨b, h1, h2, h3, fun j z hz => ?_⟩
      rw [← h4 j z hz]
      simp only [World.cell?]
      rw [setRow_other _ _ _ _ (by omega)]
theorem ScD.At.setRow {u : World} {lo B C : Nat} {d : ScD} {es : List Value} (h : ScD.At u lo B C d es) {q : Nat} {x : Option Addr} {n c : Nat} (hq : u.cell? ⟨q, 0, none⟩ = some (.slice x n c)) (ds : Array Value) : ScD.At (u.setRow q ds) lo B C d es := by
  obtain ⟨va, la, ga, vc, lc, gc, h0, h1, h2, h3, h4⟩ := h
  exact ⟨va, la, ga, vc, lc, gc, h0, h1.setRow hq ds, h2.setRow hq ds, h3.setRow hq ds, h4⟩
theorem ScD.At.cell0 {u : World} {lo B C : Nat} {d : ScD} {es : List Value} (h : ScD.At u lo B C d es) : ∃ x n c, es[0]? = some (.slice x n c) := by
  obtain ⟨va, la, ga, vc, lc, gc, rfl, _⟩ := h
  exact ⟨_, _, _, rfl⟩
theorem ScD.At.ones {u : World} {lo B C : Nat} {d : ScD} {es : List Value} (h : ScD.At u lo B C d es) : es.toArray.all (·.oneCell') = true := by
  obtain ⟨va, la, ga, vc, lc, gc, rfl, _⟩ := h
  exact one3 ..
/-- The box of a scope that is written anew, and behind it the result's cell. -/
structure BoxM (w u : World) (cs zs : List Value) (t : TypeId) : Prop where
  box : u.heap[w.heap.size]? = some (.cells cs.toArray t (0, 0))
  out : u.heap[w.heap.size + 1]? = some (.cells zs.toArray t (0, 0))
  low : Below w.heap.size w u
  size : w.heap.size + 2 ≤ u.heap.size
theorem BoxM.start (w : World) (cs zs : List Value) (t : TypeId) : BoxM w ((w.alloc (.cells cs.toArray t)).alloc (.cells zs.toArray t)) cs zs t := by
  have hB := Box2.start w cs zs t t
  exact ⟨(heap_alloc_old _ _ (by rw [World.size_alloc]; omega)).trans (heap_alloc_new w _), hB.out, hB.low, hB.size⟩
theorem BoxM.below {w u u' : World} {cs zs : List Value} {t : TypeId} (h : BoxM w u cs zs t) (hb : Below u.heap.size u u') : BoxM w u' cs zs t :=
  ⟨(hb.block _ (by have := h.size; omega)).trans h.box, (hb.block _ (by have := h.size; omega)).trans h.out, belowThen h.low hb, Nat.le_trans h.size hb.size⟩
theorem BoxM.set {w u : World} {cs zs : List Value} {t : TypeId} (h : BoxM w u cs zs t) (ds : List Value) : BoxM w (u.setRow w.heap.size ds.toArray) ds zs t :=
  ⟨setRow_heap _ _ _ _ _ _ h.box, (setRow_other _ _ _ _ (by omega)).trans h.out, below_setRow h.low (Nat.le_refl _) _, by have := h.size; simpa using this⟩
theorem BoxM.cell {w u : World} {cs zs : List Value} {t : TypeId} (h : BoxM w u cs zs t) {j : Nat} {v : Value} (hv : cs[j]? = some v) : u.cell? ⟨w.heap.size, j, none⟩ = some v := by
  rw [cell_of_row u w.heap.size j _ _ _ h.box]; simpa using hv
theorem BoxM.range {w u : World} {cs zs : List Value} {t : TypeId} (h : BoxM w u cs zs t) : u.rangeAt w.heap.size 0 cs := fun j v hv => by rw [Nat.zero_add]; exact h.cell hv
def gsF (l : List FuncD) : List (ByteArray × Int) := l.map fun f => (f.name, (f.params.length : Int))
theorem gsF_step (l : List FuncD) {k : Nat} (h : k < l.length) : gsF (l.take (k + 1)) = gsF (l.take k) ++ [(l[k].name, (l[k].params.length : Int))] := by
  unfold gsF
  rw [← List.take_append_getElem h, List.map_append]
  rfl

theorem wpStill_load {P : Program} {ops : Array Oper} {w : World} {Q : Act → Prop} {a : Act} {o : Oper} {rest : List Oper} (hg : o.guard = none) (ty : TypeId) (x : Operand) (ho : o.op = .load ty x) (b off : Nat) (hx : a.eval x = .pointer (some ⟨b, off, none⟩))
    (cs : List Value) (d : TypeDesc) (hc : w.rangeAt b off cs) (hu : P.underlying ty = some d) (hd : d.isRow = true) (hi : (P.info? ty).map (·.size) = some cs.length) (h : wpStill P ops w Q rest (a.put o.dst (.agg cs.toArray))) : wpStill P ops w Q (o :: rest) a := by
  refine wpStill_step fun K hK => ?_
  have hw : Region.wanted o (yielded ops a.tmps) = true := by unfold Region.wanted; rw [hg]
  rw [if_pos hw]
  unfold Oper.still execOp
  simp only [ho, hx, Instr.loadAt, Instr.sureAddr, Sem.run_bind, Sem.run_pure, Result.andThen_ok, run_loadVar_mid w b off ty cs d hc hu hd hi]
  exact ⟨rfl, hK _ h⟩
set_option maxRecDepth 100000 in
set_option maxHeartbeats 3200000 in
theorem functions_r (l : List FuncD) (a : Option Addr) (c : Nat) (d : ScD) (cs : List Value) (w : World) (lo B C N : Nat) (hC : C ≤ 536870912) (hN : N ≤ 536870912) (hl : l.length ≤ N) (hB : B ≤ w.heap.size) (hlo : lo ≤ w.heap.size) (h : ScD.At w lo B C d cs) (hA : FuncsAt w B N l a) :
    Calls Tryz.prog 63 #[.agg cs.toArray, .slice a l.length c] w (ScR lo (C + l.length) ⟨d.vs, d.ls, d.gs ++ gsF l⟩ w) := by
  have HA := Lib.hid hA
  have HS := Lib.hid (h.mono (B' := w.heap.size) (K' := C) hB (Nat.le_refl _))
  have hlen := h.len
  have hsz := Lib.hid (show (Tryz.prog.info? 59).map (·.size) = some cs.length by rw [hlen]; kernel_rfl)
  have B0 := Lib.hid (BoxM.start w cs zero3 59)
  clear hA h hlen
  go_enter Tryz.func63, Tryz.ntmps63
  go_wp2_with fail
  go_simp
  go_loopw [5] (fun i wr => ∃ k : Nat, k ≤ l.length ∧ i = .int .i64 k ∧ Hid (∃ es, BoxM w wr es zero3 59 ∧ ScD.At wr lo wr.heap.size (C + k) ⟨d.vs, d.ls, d.gs ++ gsF (l.take k)⟩ es)) (fun i _ => l.length - (intOf i).toNat)
  case atStart =>
    refine ⟨0, by omega, rfl, Lib.hid ⟨cs, B0.out, ?_⟩⟩
    have h1 := (HS.out.keep (Kept.of_below B0.out.low)).mono (K' := C + 0) (show w.heap.size ≤ _ from B0.out.low.size) (by omega)
    have e : d.gs ++ gsF (l.take 0) = d.gs := by simp [gsF]
    rw [e]
    exact h1
  case round =>
    obtain ⟨w1, rfl⟩ : ∃ w1, w1 = wr := ⟨wr, rfl⟩
    obtain ⟨k, hk, rfl, HR⟩ := hrel
    obtain ⟨es, hb1, hs1⟩ := HR.out
    have B1 := Lib.hid hb1
    have S1 := Lib.hid hs1
    have hesz := Lib.hid (show (Tryz.prog.info? 59).map (·.size) = some es.length by rw [hs1.len]; kernel_rfl)
    clear hb1 hs1 HR
    by_cases hlt : k < l.length
    · obtain ⟨b, p, rfl, hb, hget⟩ := HA.out.get (by intro h; simp [h] at hlt)
      obtain ⟨fs, g1, g2⟩ := hget k hlt
      obtain ⟨pa, pc, bs, gh⟩ := g2.has
      have HBw := Lib.hid (show Below B w w1.drew from (B1.out.low.mono hB).trans ⟨rfl, rfl, rfl, Nat.le_refl _, fun _ _ => rfl⟩)
      have f0 := (g1.below HBw.out hb).get0' gh.name
      have f1 := g1.below HBw.out hb 1 (by rw [gh.len]; omega)
      rw [gh.params] at f1
      have hpl : l[k].params.length ≤ N := gh.hp
      clear g1 g2 gh hget
      obtain ⟨w2, hw2⟩ : ∃ w2, w2 = w1.drew := ⟨_, rfl⟩
      have D2 := Lib.hid (show Below w1.heap.size w1 w2 by rw [hw2]; exact ⟨rfl, rfl, rfl, Nat.le_refl _, fun _ _ => rfl⟩)
      have B2 := Lib.hid (B1.out.below D2.out)
      have S2 := Lib.hid ((S1.out.keep (Kept.of_below D2.out)).mono D2.out.size (Nat.le_refl _))
      have HW2 := Lib.hid hw2
      rw [← hw2] at f0 f1
      clear hw2
      go_wp2_with fail
      refine wp_region_still_tail 12 (by kernel_rfl) (by kernel_rfl) ?_
      simp only [List.take_succ_cons, List.take_zero, List.drop_succ_cons, List.drop_zero]
      change wpStill _ _ w1.drew (fun a' => wpList _ _ _ _ a' w1.drew) _ _
      rw [← HW2.out]
      refine wpStill_load rfl 59 _ rfl w.heap.size 0 rfl es _ B2.out.range Tryz.underlying59 rfl hesz.out ?_
      simp only [Act.put]
      repeat still_step
      refine wpStill_nil ?_
      go_wp2_with fail
      refine (function_r _ l[k].name (l[k].params.length : Int) es w2 lo w2.heap.size (C + k) (by omega) (Nat.le_refl _) (Nat.le_trans hlo B2.out.low.size) S2.out).mono ?_
      rintro e w3 ⟨es3, rfl, hs3, hb3⟩
      have B3 := Lib.hid (B2.out.below hb3)
      have S3 := Lib.hid hs3
      have hes3 := hs3.len
      have hez3 := Lib.hid (show (Tryz.prog.info? 59).map (·.size) = some es3.toArray.size by rw [List.size_toArray, hes3]; kernel_rfl)
      have hsame := Lib.hid (show es.toArray.size = es3.toArray.size by rw [List.size_toArray, List.size_toArray, hes3]; exact S2.out.len)
      clear hs3 hb3 hes3
      go_wp2_with (refine wpList_store_row rfl 59 _ _ rfl w.heap.size es3.toArray rfl rfl 59 _ B3.out.box hez3.out hsame.out S3.out.ones ?_)
      have HN := Lib.hid (show ∃ es', BoxM w (w3.setRow w.heap.size es3.toArray) es' zero3 59 ∧ ScD.At (w3.setRow w.heap.size es3.toArray) lo (w3.setRow w.heap.size es3.toArray).heap.size (C + (k + 1)) ⟨d.vs, d.ls, d.gs ++ gsF (l.take (k + 1))⟩ es' by
        obtain ⟨x, n, c', h0⟩ := S2.out.cell0
        have h4 := S3.out.setRow (B3.out.cell h0) es3.toArray
        refine ⟨es3, B3.out.set es3, ?_⟩
        rw [gsF_step l hlt, ← List.append_assoc]
        exact h4.mono (by simp) (by omega))
      go_roundw
      case rel => exact ⟨k + 1, by omega, by go_num, HN⟩
      case measure => simp [intOf]; omega
    · obtain rfl : k = l.length := by omega
      have hesz2 := Lib.hid (show (Tryz.prog.info? 59).map (·.size) = some es.toArray.size by rw [List.size_toArray]; exact hesz.out)
      have hsame := Lib.hid (show zero3.toArray.size = es.toArray.size by rw [List.size_toArray, List.size_toArray, S1.out.len]; rfl)
      go_wp2_with (first
        | (refine wpList_load_mid rfl 59 _ rfl w.heap.size 0 rfl es _ B1.out.range Tryz.underlying59 rfl hesz.out ?_)
        | (refine wpList_store_row rfl 59 _ _ rfl (w.heap.size + 1) es.toArray rfl rfl 59 _ B1.out.out hesz2.out hsame.out S1.out.ones ?_))
      have HOUT := setRow_heap w1 (w.heap.size + 1) _ es.toArray _ _ B1.out.out
      refine bodyPost_ret (results_cell_row rfl _ _ (w.heap.size + 1) 59 _ (0, 0) _ rfl HOUT Tryz.underlying59 rfl hesz2.out) rfl ?_
      have h4 := S1.out.setRow (q := w.heap.size + 1) (x := none) (n := 0) (c := 0) (by rw [cell_of_row w1 (w.heap.size + 1) 0 _ _ _ B1.out.out]; rfl) es.toArray
      rw [List.take_length] at h4
      exact ⟨es, rfl, h4.mono (by simp) (Nat.le_refl _), below_setRow B1.out.low (by omega) _⟩

/-- Some scope with these variables. -/
def ScV (lo C : Nat) (vs : List ByteArray) (w : World) (e : Ending) (w' : World) : Prop := ∃ d cs, d.vs = vs ∧ e = .returned (.agg cs.toArray) ∧ ScD.At w' lo w'.heap.size C d cs ∧ Below w.heap.size w w'
theorem ScR.v {lo C C' : Nat} {d : ScD} {w w' : World} {e : Ending} (h : ScR lo C d w e w') (hC : C ≤ C') : ScV lo C' d.vs w e w' := by
  obtain ⟨cs, h1, h2, h3⟩ := h
  exact ⟨d, cs, rfl, h1, h2.mono (Nat.le_refl _) hC, h3⟩
/-- A scope's box, a function's box, the result's cell. -/
structure BoxP (w u : World) (cs fs zs : List Value) (t : TypeId) : Prop where
  box : u.heap[w.heap.size]? = some (.cells cs.toArray t (0, 0))
  row : CellsAt u (w.heap.size + 1) 0 fs
  out : u.heap[w.heap.size + 2]? = some (.cells zs.toArray t (0, 0))
  low : Below w.heap.size w u
  size : w.heap.size + 3 ≤ u.heap.size
theorem BoxP.start (w : World) (cs fs zs : List Value) (t tf : TypeId) : BoxP w (((w.alloc (.cells cs.toArray t)).alloc (.cells fs.toArray tf)).alloc (.cells zs.toArray t)) cs fs zs t := by
  have s1 : (w.alloc (.cells cs.toArray t)).heap.size = w.heap.size + 1 := World.size_alloc _ _
  have s2 : ((w.alloc (.cells cs.toArray t)).alloc (.cells fs.toArray tf)).heap.size = w.heap.size + 2 := by rw [World.size_alloc, s1]
  refine ⟨?_, ?_, ?_, belowThen (belowThen (belowBox w _) (belowBox _ _)) (belowBox _ _), by rw [World.size_alloc, s2]; omega⟩
  · exact (heap_alloc_old _ _ (by rw [s2]; omega)).trans ((heap_alloc_old _ _ (by rw [s1]; omega)).trans (heap_alloc_new w _))
  · have h := (box_at (w.alloc (.cells cs.toArray t)) fs tf).then (belowBox _ (.cells zs.toArray t)) (by rw [s2, s1]; omega)
    rw [s1] at h
    exact h
  · have h := heap_alloc_new ((w.alloc (.cells cs.toArray t)).alloc (.cells fs.toArray tf)) (.cells zs.toArray t)
    rw [s2] at h
    exact h
theorem BoxP.below {w u u' : World} {cs fs zs : List Value} {t : TypeId} (h : BoxP w u cs fs zs t) (hb : Below u.heap.size u u') : BoxP w u' cs fs zs t :=
  ⟨(hb.block _ (by have := h.size; omega)).trans h.box, h.row.then hb (by have := h.size; omega), (hb.block _ (by have := h.size; omega)).trans h.out, belowThen h.low hb, Nat.le_trans h.size hb.size⟩
theorem BoxP.set {w u : World} {cs fs zs : List Value} {t : TypeId} (h : BoxP w u cs fs zs t) (ds : List Value) : BoxP w (u.setRow w.heap.size ds.toArray) ds fs zs t := by
  refine ⟨setRow_heap _ _ _ _ _ _ h.box, fun j hj => ?_, (setRow_other _ _ _ _ (by omega)).trans h.out, below_setRow h.low (Nat.le_refl _) _, by have := h.size; simpa using this⟩
  rw [← h.row j hj]
  simp only [World.cell?]
  rw [setRow_other _ _ _ _ (by omega)]
theorem BoxP.cell {w u : World} {cs fs zs : List Value} {t : TypeId} (h : BoxP w u cs fs zs t) {j : Nat} {v : Value} (hv : cs[j]? = some v) : u.cell? ⟨w.heap.size, j, none⟩ = some v := by
  rw [cell_of_row u w.heap.size j _ _ _ h.box]; simpa using hv
theorem BoxP.range {w u : World} {cs fs zs : List Value} {t : TypeId} (h : BoxP w u cs fs zs t) : u.rangeAt w.heap.size 0 cs := fun j v hv => by rw [Nat.zero_add]; exact h.cell hv

set_option maxRecDepth 100000 in
set_option maxHeartbeats 3200000 in
theorem params_r (f : FuncD) (fs : List Value) (d : ScD) (cs : List Value) (w : World) (lo B C N : Nat) (hC : C ≤ 536870912) (hN : N ≤ 536870912) (hB : B ≤ w.heap.size) (hlo : lo ≤ w.heap.size) (h : ScD.At w lo B C d cs) (hf : FuncD.At w B N f fs) :
    Calls Tryz.prog 29 #[.agg cs.toArray, .agg fs.toArray] w (ScV lo (C + f.params.length) (d.vs ++ pvars f.params) w) := by
  obtain ⟨pa, pc, bs, gh⟩ := hf.has
  have HP := Lib.hid gh.atPar
  have f1 := gh.params
  have hpl : f.params.length ≤ N := gh.hp
  have HS := Lib.hid (h.mono (B' := w.heap.size) (K' := C) hB (Nat.le_refl _))
  have hlen := h.len
  have hsz := Lib.hid (show (Tryz.prog.info? 59).map (·.size) = some cs.length by rw [hlen]; kernel_rfl)
  have B0 := Lib.hid (BoxP.start w cs fs zero3 59 62)
  clear gh hf h hlen
  go_enter Tryz.func29, Tryz.ntmps29
  go_wp2_with fail
  go_simp
  go_loopw [5] (fun i wr => ∃ k : Nat, k ≤ f.params.length ∧ i = .int .i64 k ∧ Hid (∃ d' es, d'.vs = d.vs ++ pvars (f.params.take k) ∧ BoxP w wr es fs zero3 59 ∧ ScD.At wr lo wr.heap.size (C + k) d' es)) (fun i _ => f.params.length - (intOf i).toNat)
  case atStart =>
    refine ⟨0, by omega, rfl, Lib.hid ⟨d, cs, by simp [pvars], B0.out, ?_⟩⟩
    exact (HS.out.keep (Kept.of_below B0.out.low)).mono (K' := C + 0) (show w.heap.size ≤ _ from B0.out.low.size) (by omega)
  case round =>
    obtain ⟨w1, rfl⟩ : ∃ w1, w1 = wr := ⟨wr, rfl⟩
    obtain ⟨k, hk, rfl, HR⟩ := hrel
    obtain ⟨d1, es, hv1, hb1, hs1⟩ := HR.out
    have HV1 := Lib.hid hv1
    have B1 := Lib.hid hb1
    have S1 := Lib.hid hs1
    have hesz := Lib.hid (show (Tryz.prog.info? 59).map (·.size) = some es.length by rw [hs1.len]; kernel_rfl)
    have e1 := hb1.row.get0 f1
    clear hb1 hs1 HR hv1
    by_cases hlt : k < f.params.length
    · obtain ⟨b, p, rfl, hb, hget⟩ := HP.out.get (by intro h; simp [h] at hlt)
      obtain ⟨w2, hw2⟩ : ∃ w2, w2 = w1.drew := ⟨_, rfl⟩
      have D2 := Lib.hid (show Below w1.heap.size w1 w2 by rw [hw2]; exact ⟨rfl, rfl, rfl, Nat.le_refl _, fun _ _ => rfl⟩)
      have B2 := Lib.hid (B1.out.below D2.out)
      have S2 := Lib.hid ((S1.out.keep (Kept.of_below D2.out)).mono D2.out.size (Nat.le_refl _))
      have HW2 := Lib.hid hw2
      have q1 := (hget k hlt).2.below (B1.out.low.mono hB) hb 1 (by show 1 < 2; omega)
      have q0 := ((hget k hlt).2.below (B2.out.low.mono hB) hb).get0' rfl
      have e2 := B2.out.row.get0 f1
      have q1' : w1.cell? ⟨b, p + k * 2 + 1, none⟩ = some (.bool f.params[k].value) := q1
      clear hw2 hget q1
      cases hval : f.params[k].value
      all_goals
        rw [hval] at q1'
        have HNV := Lib.hid (show pvars (f.params.take (k + 1)) = pvars (f.params.take k) ++ (if f.params[k].value then [f.params[k].name] else []) from pvars_step _ hlt)
        have HVAL := Lib.hid hval
        clear hval
        go_wp2_with fail
        refine wp_region_still_tail 7 (by kernel_rfl) (by kernel_rfl) ?_
        simp only [List.take_succ_cons, List.take_zero, List.drop_succ_cons, List.drop_zero]
        change wpStill _ _ w1.drew (fun a' => wpList _ _ _ _ a' w1.drew) _ _
        rw [← HW2.out]
        refine wpStill_load rfl 59 _ rfl w.heap.size 0 rfl es _ B2.out.range Tryz.underlying59 rfl hesz.out ?_
        simp only [Act.put]
        repeat still_step
        refine wpStill_nil ?_
        go_wp2_with fail
        first
          | refine ((variable_r d1 f.params[k].name es w2 lo w2.heap.size (C + k) (by omega) (Nat.le_refl _) (Nat.le_trans hlo B2.out.low.size) S2.out).mono fun e w' h => h.v (Nat.le_refl _)).mono ?_
          | refine ((function_r d1 f.params[k].name 0 es w2 lo w2.heap.size (C + k) (by omega) (Nat.le_refl _) (Nat.le_trans hlo B2.out.low.size) S2.out).mono fun e w' h => h.v (Nat.le_refl _)).mono ?_
        rintro e w3 ⟨d3, es3, hv3, rfl, hs3, hb3⟩
        have B3 := Lib.hid (B2.out.below hb3)
        have S3 := Lib.hid hs3
        have hes3 := hs3.len
        have hez3 := Lib.hid (show (Tryz.prog.info? 59).map (·.size) = some es3.toArray.size by rw [List.size_toArray, hes3]; kernel_rfl)
        have hsame := Lib.hid (show es.toArray.size = es3.toArray.size by rw [List.size_toArray, List.size_toArray, hes3]; exact S2.out.len)
        have HV3 := Lib.hid (show d3.vs = d.vs ++ pvars (f.params.take (k + 1)) by
          rw [hv3, HNV.out, HVAL.out]
          simp [HV1.out])
        clear hs3 hb3 hes3 hv3
        go_wp2_with (refine wpList_store_row rfl 59 _ _ rfl w.heap.size es3.toArray rfl rfl 59 _ B3.out.box hez3.out hsame.out S3.out.ones ?_)
        have HN := Lib.hid (show ∃ d' es', d'.vs = d.vs ++ pvars (f.params.take (k + 1)) ∧ BoxP w (w3.setRow w.heap.size es3.toArray) es' fs zero3 59 ∧ ScD.At (w3.setRow w.heap.size es3.toArray) lo (w3.setRow w.heap.size es3.toArray).heap.size (C + (k + 1)) d' es' by
          obtain ⟨x, n, c', h0⟩ := S2.out.cell0
          have h4 := S3.out.setRow (B3.out.cell h0) es3.toArray
          exact ⟨d3, es3, HV3.out, B3.out.set es3, h4.mono (by simp) (by omega)⟩)
        go_roundw
        case rel => exact ⟨k + 1, by omega, by go_num, HN⟩
        case measure => simp [intOf]; omega
    · obtain rfl : k = f.params.length := by omega
      have hesz2 := Lib.hid (show (Tryz.prog.info? 59).map (·.size) = some es.toArray.size by rw [List.size_toArray]; exact hesz.out)
      have hsame := Lib.hid (show zero3.toArray.size = es.toArray.size by rw [List.size_toArray, List.size_toArray, S1.out.len]; rfl)
      go_wp2_with (first
        | (refine wpList_load_mid rfl 59 _ rfl w.heap.size 0 rfl es _ B1.out.range Tryz.underlying59 rfl hesz.out ?_)
        | (refine wpList_store_row rfl 59 _ _ rfl (w.heap.size + 1 + 1) es.toArray rfl rfl 59 _ B1.out.out hesz2.out hsame.out S1.out.ones ?_))
      have HOUT := setRow_heap w1 (w.heap.size + 2) _ es.toArray _ _ B1.out.out
      refine bodyPost_ret (results_cell_row rfl _ _ (w.heap.size + 1 + 1) 59 _ (0, 0) _ rfl HOUT Tryz.underlying59 rfl hesz2.out) rfl ?_
      have h4 := S1.out.setRow (q := w.heap.size + 2) (x := none) (n := 0) (c := 0) (by rw [cell_of_row w1 (w.heap.size + 2) 0 _ _ _ B1.out.out]; rfl) es.toArray
      have hv := HV1.out
      rw [pvars_all] at hv
      exact ⟨d1, es, hv, rfl, h4.mono (by simp) (Nat.le_refl _), below_setRow B1.out.low (by omega) _⟩
end Go.Proofs.YtfegnmbdgdjkgaaGreat
