/- datakitref07.Cmp, by the kind of the values. -/
import Derived.Test.YtmjfggadehkbjaaGreatDoorSam07
import Derived.Test.YtmjfggadehkbjaaGreatDoorOrl07
namespace Go.Proofs.YtmjfggadehkbjaaGreatDoor
open Go.RowKit

theorem BytesAt.small {w : World} {B : Nat} {l : List Int} {a : Option Addr} (h : BytesAt w B l a) : ∀ x ∈ l, 0 ≤ x ∧ x ≤ 255 := by
  rcases h with rfl | ⟨_, _, _, _, _, h⟩
  · intro x hx; cases hx
  · exact h
theorem bytes_S (l m : List Int) (h1 : ∀ x ∈ l, 0 ≤ x ∧ x ≤ 255) (h2 : ∀ x ∈ m, 0 ≤ x ∧ x ≤ 255) : lisC sgn l m = cmpS (strOfNums l) (strOfNums m) := by
  rw [lisC_bytes l m h1 h2, ← cmpB_S]
  rfl
set_option maxRecDepth 100000 in
set_option maxHeartbeats 3200000 in
theorem ordR_ne {m : Nat} (IH : OrdR m) (v u : ValD) (w : World) (B N : Nat) (cs ds : List Value) (h1 : okC (m + 1) v) (h2 : okC (m + 1) u) (hN : N ≤ 4294967296) (hB : B ≤ w.heap.size) (hv : ValD.At w B N v cs) (hu : ValD.At w B N u ds) (hk : v.kind ≠ u.kind) :
    Calls Tryz.prog 16 #[.agg cs.toArray, .agg ds.toArray] w (CmpE (sgn v.kind u.kind) w) := by
  have hq := And.intro hN hB; clear hq
  obtain ⟨ya, la, fa, yc, lc, fc, hh⟩ := hv.has
  obtain ⟨yb, lb, fb, yd, ld, fd, hg⟩ := hu.has
  have D0 := Lib.hid (duo_boxes w cs ds 30)
  have HH := Lib.hid hh
  have HG := Lib.hid hg
  have HV := Lib.hid hv
  have HU := Lib.hid hu
  have O1 := Lib.hid h1
  have O2 := Lib.hid h2
  have HI := Lib.hid IH
  have ekind := D0.out.one.get0 HH.out.kind
  have fkind := D0.out.two.get0 HG.out.kind
  clear hh hg hv hu h1 h2 IH
  have hne : (v.kind != u.kind) = true := by simpa using hk
  have k1 := O1.out.1
  have k2 := O2.out.1
  clear hk
  obtain ⟨r, hr⟩ : ∃ r, r = sgn v.kind u.kind := ⟨_, rfl⟩
  rw [← hr]
  have HR := Lib.hid (hr.trans (sgn_sub _ _).symm)
  clear hr
  go_enter Tryz.func16, Tryz.ntmps16
  go_wp2_with (go_at_call 41; refine (sign_r _ _).mono ?_; rintro e w1 ⟨rfl, rfl⟩; rw [← HR.out])
  go_ret
  exact ⟨rfl, D0.out.below⟩
set_option maxRecDepth 100000 in
set_option maxHeartbeats 3200000 in
theorem ordR_0 {m : Nat} (IH : OrdR m) (v u : ValD) (w : World) (B N : Nat) (cs ds : List Value) (h1 : okC (m + 1) v) (h2 : okC (m + 1) u) (hN : N ≤ 4294967296) (hB : B ≤ w.heap.size) (hv : ValD.At w B N v cs) (hu : ValD.At w B N u ds) (hk : v.kind = 0) (hku : u.kind = 0) :
    Calls Tryz.prog 16 #[.agg cs.toArray, .agg ds.toArray] w (CmpE (0) w) := by
  have hq := And.intro hN hB; clear hq
  obtain ⟨ya, la, fa, yc, lc, fc, hh⟩ := hv.has
  obtain ⟨yb, lb, fb, yd, ld, fd, hg⟩ := hu.has
  have D0 := Lib.hid (duo_boxes w cs ds 30)
  have HH := Lib.hid hh
  have HG := Lib.hid hg
  have HV := Lib.hid hv
  have HU := Lib.hid hu
  have O1 := Lib.hid h1
  have O2 := Lib.hid h2
  have HI := Lib.hid IH
  have ekind := D0.out.one.get0 HH.out.kind
  have fkind := D0.out.two.get0 HG.out.kind
  rw [hk] at ekind
  rw [hku] at fkind
  clear hh hg hv hu h1 h2 IH hk hku
  go_enter Tryz.func16, Tryz.ntmps16
  go_wp2_with fail
  go_ret
  exact ⟨rfl, D0.out.below⟩
set_option maxRecDepth 100000 in
set_option maxHeartbeats 3200000 in
theorem ordR_1 {m : Nat} (IH : OrdR m) (v u : ValD) (w : World) (B N : Nat) (cs ds : List Value) (h1 : okC (m + 1) v) (h2 : okC (m + 1) u) (hN : N ≤ 4294967296) (hB : B ≤ w.heap.size) (hv : ValD.At w B N v cs) (hu : ValD.At w B N u ds) (hk : v.kind = 1) (hku : u.kind = 1) :
    Calls Tryz.prog 16 #[.agg cs.toArray, .agg ds.toArray] w (CmpE (bI v.bool - bI u.bool) w) := by
  have hq := And.intro hN hB; clear hq
  obtain ⟨ya, la, fa, yc, lc, fc, hh⟩ := hv.has
  obtain ⟨yb, lb, fb, yd, ld, fd, hg⟩ := hu.has
  have D0 := Lib.hid (duo_boxes w cs ds 30)
  have HH := Lib.hid hh
  have HG := Lib.hid hg
  have HV := Lib.hid hv
  have HU := Lib.hid hu
  have O1 := Lib.hid h1
  have O2 := Lib.hid h2
  have HI := Lib.hid IH
  have ekind := D0.out.one.get0 HH.out.kind
  have fkind := D0.out.two.get0 HG.out.kind
  have ebool := D0.out.one.get0 HH.out.bool
  have fbool := D0.out.two.get0 HG.out.bool
  rw [hk] at ekind
  rw [hku] at fkind
  clear hh hg hv hu h1 h2 IH hk hku
  have HL0 := Lib.hid (show w.heap.size < ((w.alloc (.cells cs.toArray 30)).alloc (.cells ds.toArray 30)).heap.size by have := D0.out.size; omega)
  have HL1 := Lib.hid (show w.heap.size + 1 < ((w.alloc (.cells cs.toArray 30)).alloc (.cells ds.toArray 30)).heap.size by have := D0.out.size; omega)
  obtain ⟨x0, hx0⟩ : ∃ x, x = bI v.bool := ⟨_, rfl⟩
  obtain ⟨x1, hx1⟩ : ∃ x, x = bI u.bool := ⟨_, rfl⟩
  have b0 : 0 ≤ x0 ∧ x0 ≤ 1 := by rw [hx0]; unfold bI; split <;> omega
  have b1 : 0 ≤ x1 ∧ x1 ≤ 1 := by rw [hx1]; unfold bI; split <;> omega
  rw [← hx0, ← hx1]
  have HX0 := Lib.hid hx0
  have HX1 := Lib.hid hx1
  clear hx0 hx1
  go_enter Tryz.func16, Tryz.ntmps16
  go_wp2_with fail
  refine wp_region_held_drew (S := fun u => Below ((w.alloc (.cells cs.toArray 30)).alloc (.cells ds.toArray 30)).heap.size ((w.alloc (.cells cs.toArray 30)).alloc (.cells ds.toArray 30)) u) (by kernel_rfl) (drewB _) (fun hHeld => ?_)
  refine' wpAnyH_takeU (i := 0) (v := .pointer (some ⟨w.heap.size, 1, none⟩)) _ rfl rfl (by kernel_rfl) (by kernel_rfl) (by kernel_rfl) (fun _ _ _ h => h) (.inl ⟨by rfl, fun u hu => (by go_simp)⟩) hHeld ?_
  simp only [List.set_cons_succ, List.set_cons_zero]
  refine' wpAnyH_takeU (i := 1) (v := .bool v.bool) _ rfl rfl (by kernel_rfl) (by kernel_rfl) (by kernel_rfl) (fun _ _ _ h => h) (.inl ⟨by rfl, fun q hq => (by have hc := (hq.cell (p := ⟨w.heap.size, 1, none⟩) HL0.out).trans ebool; go_simp)⟩) hHeld ?_
  simp only [List.set_cons_succ, List.set_cons_zero]
  refine' wpAnyH_takeU (i := 3) (v := .pointer (some ⟨w.heap.size + 1, 1, none⟩)) _ rfl rfl (by kernel_rfl) (by kernel_rfl) (by kernel_rfl) (fun _ _ _ h => h) (.inl ⟨by rfl, fun u hu => (by go_simp)⟩) hHeld ?_
  simp only [List.set_cons_succ, List.set_cons_zero]
  refine' wpAnyH_takeU (i := 4) (v := .bool u.bool) _ rfl rfl (by kernel_rfl) (by kernel_rfl) (by kernel_rfl) (fun _ _ _ h => h) (.inl ⟨by rfl, fun q hq => (by have hc := (hq.cell (p := ⟨w.heap.size + 1, 1, none⟩) HL1.out).trans fbool; go_simp)⟩) hHeld ?_
  simp only [List.set_cons_succ, List.set_cons_zero]
  refine wpAnyH_ready (rs := [2]) (by kernel_rfl) (by simp) ?_
  refine AllReadyH.cons rfl (fun K hK => ?_) AllReadyH.nil
  rw [if_pos (by rfl)]
  go_simp
  refine (truth_r v.bool _).mono ?_
  rintro e uC0 ⟨rfl, rfl⟩
  rw [← HX0.out]
  refine hK.out _ _ hHeld (fun hHeld0 => ?_)
  clear hK K hHeld
  have hHeld := hHeld0
  clear hHeld0
  refine wpAnyH_ready (rs := [5]) (by kernel_rfl) (by simp) ?_
  refine AllReadyH.cons rfl (fun K hK => ?_) AllReadyH.nil
  rw [if_pos (by rfl)]
  go_simp
  refine (truth_r u.bool _).mono ?_
  rintro e uC1 ⟨rfl, rfl⟩
  rw [← HX1.out]
  refine hK.out _ _ hHeld (fun hHeld1 => ?_)
  clear hK K hHeld
  have hHeld := hHeld1
  clear hHeld1
  refine' wpAnyH_takeU (i := 6) (v := .int .i64 (x0 - x1)) _ rfl rfl (by kernel_rfl) (by kernel_rfl) (by kernel_rfl) (fun _ _ _ h => h) (.inl ⟨by rfl, fun u hu => (by go_simp; all_goals first | omega | (rw [IntKind.wrap_i64]; omega))⟩) hHeld ?_
  simp only [List.set_cons_succ, List.set_cons_zero]
  refine wpAnyH_ready (rs := [7]) (by kernel_rfl) (by simp) ?_
  refine AllReadyH.cons rfl (fun K hK => ?_) AllReadyH.nil
  rw [if_pos (by rfl)]
  go_simp
  refine hK.out _ _ hHeld (fun hHeldx => ?_)
  clear hK K hHeldx
  refine wpAnyH_done (by kernel_rfl) ?_ _
  have HB1 := Lib.hid (belowThen D0.out.below hHeld)
  clear hHeld
  go_wp2_with fail
  go_ret
  exact ⟨rfl, HB1.out⟩
set_option maxRecDepth 100000 in
set_option maxHeartbeats 3200000 in
theorem ordR_2 {m : Nat} (IH : OrdR m) (v u : ValD) (w : World) (B N : Nat) (cs ds : List Value) (h1 : okC (m + 1) v) (h2 : okC (m + 1) u) (hN : N ≤ 4294967296) (hB : B ≤ w.heap.size) (hv : ValD.At w B N v cs) (hu : ValD.At w B N u ds) (hk : v.kind = 2) (hku : u.kind = 2) :
    Calls Tryz.prog 16 #[.agg cs.toArray, .agg ds.toArray] w (CmpE (decC v.num u.num) w) := by
  have hq := And.intro hN hB; clear hq
  obtain ⟨ya, la, fa, yc, lc, fc, hh⟩ := hv.has
  obtain ⟨yb, lb, fb, yd, ld, fd, hg⟩ := hu.has
  have D0 := Lib.hid (duo_boxes w cs ds 30)
  have HH := Lib.hid hh
  have HG := Lib.hid hg
  have HV := Lib.hid hv
  have HU := Lib.hid hu
  have O1 := Lib.hid h1
  have O2 := Lib.hid h2
  have HI := Lib.hid IH
  have ekind := D0.out.one.get0 HH.out.kind
  have fkind := D0.out.two.get0 HG.out.kind
  have eneg := D0.out.one.get0 HH.out.neg
  have fneg := D0.out.two.get0 HG.out.neg
  have edigits := D0.out.one.get0 HH.out.digits
  have fdigits := D0.out.two.get0 HG.out.digits
  have eexp := D0.out.one.get0 HH.out.exp
  have fexp := D0.out.two.get0 HG.out.exp
  rw [hk] at ekind
  rw [hku] at fkind
  clear hh hg hv hu h1 h2 IH hk hku
  obtain ⟨r, hr⟩ : ∃ r, r = decC v.num u.num := ⟨_, rfl⟩
  rw [← hr]
  have HR := Lib.hid hr
  clear hr
  go_enter Tryz.func16, Tryz.ntmps16
  go_wp2_with fail
  refine (deccmp_r v.num u.num _ O1.out.2.1 O2.out.2.1).mono ?_
  rintro e w1 ⟨rfl, hb⟩
  rw [← HR.out]
  have HB1 := Lib.hid (belowThen D0.out.below hb)
  clear hb
  go_wp2_with fail
  go_ret
  exact ⟨rfl, HB1.out⟩
set_option maxRecDepth 100000 in
set_option maxHeartbeats 3200000 in
theorem ordR_3 {m : Nat} (IH : OrdR m) (v u : ValD) (w : World) (B N : Nat) (cs ds : List Value) (h1 : okC (m + 1) v) (h2 : okC (m + 1) u) (hN : N ≤ 4294967296) (hB : B ≤ w.heap.size) (hv : ValD.At w B N v cs) (hu : ValD.At w B N u ds) (hk : v.kind = 3) (hku : u.kind = 3) :
    Calls Tryz.prog 16 #[.agg cs.toArray, .agg ds.toArray] w (CmpE (timC v.time u.time) w) := by
  have hq := And.intro hN hB; clear hq
  obtain ⟨ya, la, fa, yc, lc, fc, hh⟩ := hv.has
  obtain ⟨yb, lb, fb, yd, ld, fd, hg⟩ := hu.has
  have D0 := Lib.hid (duo_boxes w cs ds 30)
  have HH := Lib.hid hh
  have HG := Lib.hid hg
  have HV := Lib.hid hv
  have HU := Lib.hid hu
  have O1 := Lib.hid h1
  have O2 := Lib.hid h2
  have HI := Lib.hid IH
  have HT1 := Lib.hid (h1.2.2.1 hk)
  have HT2 := Lib.hid (h2.2.2.1 hku)
  have ekind := D0.out.one.get0 HH.out.kind
  have fkind := D0.out.two.get0 HG.out.kind
  have etkind := D0.out.one.get0 HH.out.tkind
  have ftkind := D0.out.two.get0 HG.out.tkind
  have eday := D0.out.one.get0 HH.out.day
  have fday := D0.out.two.get0 HG.out.day
  have enano := D0.out.one.get0 HH.out.nano
  have fnano := D0.out.two.get0 HG.out.nano
  have eoffset := D0.out.one.get0 HH.out.offset
  have foffset := D0.out.two.get0 HG.out.offset
  rw [hk] at ekind
  rw [hku] at fkind
  clear hh hg hv hu h1 h2 IH hk hku
  obtain ⟨r, hr⟩ : ∃ r, r = timC v.time u.time := ⟨_, rfl⟩
  rw [← hr]
  have HR := Lib.hid hr
  clear hr
  go_enter Tryz.func16, Tryz.ntmps16
  go_wp2_with fail
  refine (tcmp_r v.time u.time _ HT1.out HT2.out).mono ?_
  rintro e w1 ⟨rfl, hb⟩
  rw [← HR.out]
  have HB1 := Lib.hid (belowThen D0.out.below hb)
  clear hb
  go_wp2_with fail
  go_ret
  exact ⟨rfl, HB1.out⟩
set_option maxRecDepth 100000 in
set_option maxHeartbeats 3200000 in
theorem ordR_4 {m : Nat} (IH : OrdR m) (v u : ValD) (w : World) (B N : Nat) (cs ds : List Value) (h1 : okC (m + 1) v) (h2 : okC (m + 1) u) (hN : N ≤ 4294967296) (hB : B ≤ w.heap.size) (hv : ValD.At w B N v cs) (hu : ValD.At w B N u ds) (hk : v.kind = 4) (hku : u.kind = 4) :
    Calls Tryz.prog 16 #[.agg cs.toArray, .agg ds.toArray] w (CmpE (cmpS v.text u.text) w) := by
  have hq := And.intro hN hB; clear hq
  obtain ⟨ya, la, fa, yc, lc, fc, hh⟩ := hv.has
  obtain ⟨yb, lb, fb, yd, ld, fd, hg⟩ := hu.has
  have D0 := Lib.hid (duo_boxes w cs ds 30)
  have HH := Lib.hid hh
  have HG := Lib.hid hg
  have HV := Lib.hid hv
  have HU := Lib.hid hu
  have O1 := Lib.hid h1
  have O2 := Lib.hid h2
  have HI := Lib.hid IH
  have ekind := D0.out.one.get0 HH.out.kind
  have fkind := D0.out.two.get0 HG.out.kind
  have etext := D0.out.one.get0 HH.out.text
  have ftext := D0.out.two.get0 HG.out.text
  rw [hk] at ekind
  rw [hku] at fkind
  clear hh hg hv hu h1 h2 IH hk hku
  obtain ⟨r, hr⟩ : ∃ r, r = cmpS v.text u.text := ⟨_, rfl⟩
  rw [← hr]
  have HR := Lib.hid hr
  clear hr
  go_enter Tryz.func16, Tryz.ntmps16
  go_wp2_with fail
  refine (text_e v.text u.text _).mono ?_
  rintro e w1 ⟨rfl, hb⟩
  rw [← HR.out]
  have HB1 := Lib.hid (belowThen D0.out.below hb)
  clear hb
  go_wp2_with fail
  go_ret
  exact ⟨rfl, HB1.out⟩
set_option maxRecDepth 100000 in
set_option maxHeartbeats 3200000 in
theorem ordR_5 {m : Nat} (IH : OrdR m) (v u : ValD) (w : World) (B N : Nat) (cs ds : List Value) (h1 : okC (m + 1) v) (h2 : okC (m + 1) u) (hN : N ≤ 4294967296) (hB : B ≤ w.heap.size) (hv : ValD.At w B N v cs) (hu : ValD.At w B N u ds) (hk : v.kind = 5) (hku : u.kind = 5) :
    Calls Tryz.prog 16 #[.agg cs.toArray, .agg ds.toArray] w (CmpE (lisC sgn v.bytes u.bytes) w) := by
  have hq := And.intro hN hB; clear hq
  obtain ⟨ya, la, fa, yc, lc, fc, hh⟩ := hv.has
  obtain ⟨yb, lb, fb, yd, ld, fd, hg⟩ := hu.has
  have D0 := Lib.hid (duo_boxes w cs ds 30)
  have HH := Lib.hid hh
  have HG := Lib.hid hg
  have HV := Lib.hid hv
  have HU := Lib.hid hu
  have O1 := Lib.hid h1
  have O2 := Lib.hid h2
  have HI := Lib.hid IH
  have Y1 := conv_bytes (hh.atBytes.below (D0.out.below.mono hB)) yc
  have Y2 := conv_bytes (hg.atBytes.below (D0.out.below.mono hB)) yd
  have ekind := D0.out.one.get0 HH.out.kind
  have fkind := D0.out.two.get0 HG.out.kind
  have ebytes := D0.out.one.get0 HH.out.bytes
  have fbytes := D0.out.two.get0 HG.out.bytes
  rw [hk] at ekind
  rw [hku] at fkind
  clear hh hg hv hu h1 h2 IH hk hku
  obtain ⟨r, hr⟩ : ∃ r, r = lisC sgn v.bytes u.bytes := ⟨_, rfl⟩
  rw [← hr]
  have HR := Lib.hid (hr.trans (bytes_S _ _ HH.out.atBytes.small HG.out.atBytes.small))
  clear hr
  go_enter Tryz.func16, Tryz.ntmps16
  go_wp2_with fail
  refine (text_e (strOfNums v.bytes) (strOfNums u.bytes) _).mono ?_
  rintro e w1 ⟨rfl, hb⟩
  rw [← HR.out]
  have HB1 := Lib.hid (belowThen D0.out.below hb)
  clear hb
  go_wp2_with fail
  go_ret
  exact ⟨rfl, HB1.out⟩
set_option maxRecDepth 100000 in
set_option maxHeartbeats 3200000 in
theorem ordR_6 {m : Nat} (IH : OrdR m) (v u : ValD) (w : World) (B N : Nat) (cs ds : List Value) (h1 : okC (m + 1) v) (h2 : okC (m + 1) u) (hN : N ≤ 4294967296) (hB : B ≤ w.heap.size) (hv : ValD.At w B N v cs) (hu : ValD.At w B N u ds) (hk : v.kind = 6) (hku : u.kind = 6) :
    Calls Tryz.prog 16 #[.agg cs.toArray, .agg ds.toArray] w (CmpE (lisC (cmpD m) v.list u.list) w) := by
  have hq := And.intro hN hB; clear hq
  obtain ⟨ya, la, fa, yc, lc, fc, hh⟩ := hv.has
  obtain ⟨yb, lb, fb, yd, ld, fd, hg⟩ := hu.has
  have D0 := Lib.hid (duo_boxes w cs ds 30)
  have HH := Lib.hid hh
  have HG := Lib.hid hg
  have HV := Lib.hid hv
  have HU := Lib.hid hu
  have O1 := Lib.hid h1
  have O2 := Lib.hid h2
  have HI := Lib.hid IH
  have HL1 := Lib.hid hh.own.2.2.2.2.2.2.2.2.2.1
  have HL2 := Lib.hid hg.own.2.2.2.2.2.2.2.2.2.1
  have ekind := D0.out.one.get0 HH.out.kind
  have fkind := D0.out.two.get0 HG.out.kind
  have elist := D0.out.one.get0 HH.out.list
  have flist := D0.out.two.get0 HG.out.list
  rw [hk] at ekind
  rw [hku] at fkind
  clear hh hg hv hu h1 h2 IH hk hku
  obtain ⟨r, hr⟩ : ∃ r, r = lisC (cmpD m) v.list u.list := ⟨_, rfl⟩
  rw [← hr]
  have HR := Lib.hid hr
  clear hr
  go_enter Tryz.func16, Tryz.ntmps16
  go_wp2_with fail
  refine (lists_r HI.out v.list u.list la lb lc ld B N _ hN HL1.out HL2.out (Nat.le_trans hB D0.out.below.size) O1.out.2.2.2.2.2.1 O2.out.2.2.2.2.2.1 (HH.out.atList.below (D0.out.below.mono hB)) (HG.out.atList.below (D0.out.below.mono hB))).mono ?_
  rintro e w1 ⟨rfl, hb⟩
  rw [← HR.out]
  have HB1 := Lib.hid (belowThen D0.out.below hb)
  clear hb
  go_wp2_with fail
  go_ret
  exact ⟨rfl, HB1.out⟩
set_option maxRecDepth 100000 in
set_option maxHeartbeats 3200000 in
theorem ordR_7 {m : Nat} (IH : OrdR m) (v u : ValD) (w : World) (B N : Nat) (cs ds : List Value) (h1 : okC (m + 1) v) (h2 : okC (m + 1) u) (hN : N ≤ 4294967296) (hB : B ≤ w.heap.size) (hv : ValD.At w B N v cs) (hu : ValD.At w B N u ds) (hk : v.kind = 7) (hku : u.kind = 7) :
    Calls Tryz.prog 16 #[.agg cs.toArray, .agg ds.toArray] w (CmpE (mapC (cmpD m) v.fields u.fields) w) := by
  have hq := And.intro hN hB; clear hq
  obtain ⟨ya, la, fa, yc, lc, fc, hh⟩ := hv.has
  obtain ⟨yb, lb, fb, yd, ld, fd, hg⟩ := hu.has
  have D0 := Lib.hid (duo_boxes w cs ds 30)
  have HH := Lib.hid hh
  have HG := Lib.hid hg
  have HV := Lib.hid hv
  have HU := Lib.hid hu
  have O1 := Lib.hid h1
  have O2 := Lib.hid h2
  have HI := Lib.hid IH
  have HL1 := Lib.hid hh.own.2.2.2.2.2.2.2.2.2.2
  have HL2 := Lib.hid hg.own.2.2.2.2.2.2.2.2.2.2
  have ekind := D0.out.one.get0 HH.out.kind
  have fkind := D0.out.two.get0 HG.out.kind
  have efields := D0.out.one.get0 HH.out.fields
  have ffields := D0.out.two.get0 HG.out.fields
  rw [hk] at ekind
  rw [hku] at fkind
  clear hh hg hv hu h1 h2 IH hk hku
  obtain ⟨r, hr⟩ : ∃ r, r = mapC (cmpD m) v.fields u.fields := ⟨_, rfl⟩
  rw [← hr]
  have HR := Lib.hid hr
  clear hr
  go_enter Tryz.func16, Tryz.ntmps16
  go_wp2_with fail
  refine (maps_r HI.out v.fields u.fields fa fb fc fd B N _ hN HL1.out HL2.out (Nat.le_trans hB D0.out.below.size) O1.out.2.2.2.2.2.2 O2.out.2.2.2.2.2.2 (HH.out.atFields.below (D0.out.below.mono hB)) (HG.out.atFields.below (D0.out.below.mono hB))).mono ?_
  rintro e w1 ⟨rfl, hb⟩
  rw [← HR.out]
  have HB1 := Lib.hid (belowThen D0.out.below hb)
  clear hb
  go_wp2_with fail
  go_ret
  exact ⟨rfl, HB1.out⟩
theorem cmp_r (m : Nat) : OrdR m := by
  induction m with
  | zero => exact fun v u w B N cs ds h => absurd h (by simp [okC])
  | succ m ih =>
    intro v u w B N cs ds h1 h2 hN hB hv hu
    obtain ⟨k0, k7⟩ := h1.1
    by_cases hk : v.kind = u.kind
    · have e0 : ∀ r, cmpD (m + 1) v u = r → CmpE r w = CmpE (cmpD (m + 1) v u) w := fun r h => by rw [h]
      rcases (show v.kind = 0 ∨ v.kind = 1 ∨ v.kind = 2 ∨ v.kind = 3 ∨ v.kind = 4 ∨ v.kind = 5 ∨ v.kind = 6 ∨ v.kind = 7 by omega) with h | h | h | h | h | h | h | h
      · rw [← e0 0 (by unfold cmpD; simp [← hk, h])]
        exact ordR_0 ih v u w B N cs ds h1 h2 hN hB hv hu h (hk ▸ h)
      · rw [← e0 _ (show _ = bI v.bool - bI u.bool by unfold cmpD; simp [← hk, h])]
        exact ordR_1 ih v u w B N cs ds h1 h2 hN hB hv hu h (hk ▸ h)
      · rw [← e0 _ (show _ = decC v.num u.num by unfold cmpD; simp [← hk, h])]
        exact ordR_2 ih v u w B N cs ds h1 h2 hN hB hv hu h (hk ▸ h)
      · rw [← e0 _ (show _ = timC v.time u.time by unfold cmpD; simp [← hk, h])]
        exact ordR_3 ih v u w B N cs ds h1 h2 hN hB hv hu h (hk ▸ h)
      · rw [← e0 _ (show _ = cmpS v.text u.text by unfold cmpD; simp [← hk, h])]
        exact ordR_4 ih v u w B N cs ds h1 h2 hN hB hv hu h (hk ▸ h)
      · rw [← e0 _ (show _ = lisC sgn v.bytes u.bytes by unfold cmpD; simp [← hk, h])]
        exact ordR_5 ih v u w B N cs ds h1 h2 hN hB hv hu h (hk ▸ h)
      · rw [← e0 _ (show _ = lisC (cmpD m) v.list u.list by unfold cmpD; simp [← hk, h])]
        exact ordR_6 ih v u w B N cs ds h1 h2 hN hB hv hu h (hk ▸ h)
      · rw [← e0 _ (show _ = mapC (cmpD m) v.fields u.fields by unfold cmpD; simp [← hk, h])]
        exact ordR_7 ih v u w B N cs ds h1 h2 hN hB hv hu h (hk ▸ h)
    · rw [show cmpD (m + 1) v u = sgn v.kind u.kind by unfold cmpD; rw [if_pos hk]]
      exact ordR_ne ih v u w B N cs ds h1 h2 hN hB hv hu hk

end Go.Proofs.YtmjfggadehkbjaaGreatDoor
