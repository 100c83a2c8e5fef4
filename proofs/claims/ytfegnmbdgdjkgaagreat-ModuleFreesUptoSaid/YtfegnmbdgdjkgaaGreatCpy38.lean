/- value.Copy; Clone of a function's parameters; a result that is a struct in a cell beside a number. -/
import Derived.Test.YtfegnmbdgdjkgaaGreatGU
import Derived.Test.YtfegnmbdgdjkgaaGreatGE
namespace Go.Proofs.YtfegnmbdgdjkgaaGreat
open Go.RowKit

theorem results_cell_row2 {P : Program} {fn : Func} {p u : Tmp} {ty : TypeId} (h : fn.results = #[.cell p ty, .tmp u]) (tmps : Array Value) (w : World) (g : Nat) (t : TypeId) (cs : Array Value) (fr : Nat × Nat) (d : TypeDesc)
    (hp : tmps.getD p undef = .pointer (some ⟨g, 0, none⟩)) (hg : w.heap[g]? = some (.cells cs t fr))
    (hu : P.underlying ty = some d) (hd : (match d with | .struct _ | .array _ _ => true | _ => false) = true) (hi : (P.info? ty).map (·.size) = some cs.size) :
    (results fn tmps).run P w = .ok (.tuple #[.agg cs, tmps.getD u undef]) w := by
  have hp' : tmps[p]?.getD undef = .pointer (some ⟨g, 0, none⟩) := by simpa using hp
  simp [results, h, hp', asAddr, run_loadVar_row w g t ty cs fr d hg hu hd hi]
theorem sizeZ : (Tryz.prog.info? 30).map (·.size) = some zeroV.size := sizeV
theorem oneZ : zeroV.all (·.oneCell') = true := by kernel_rfl
theorem row_size {cs : List Value} (h : cs.length = 13) : (Tryz.prog.info? 30).map (·.size) = some cs.toArray.size := by rw [List.size_toArray, h]; exact sizeV
theorem row_zero {cs : List Value} (h : cs.length = 13) : zeroV.toList.toArray.size = cs.toArray.size := by rw [List.size_toArray, List.size_toArray, h]; rfl
theorem row_ones {w : World} {B N : Nat} {v : ValD} {cs : List Value} (h : ValD.At w B N v cs) : cs.toArray.all (·.oneCell') = true := Go.all_oneCell_toArray h.oneCell
theorem keep_setRow (w : World) (g L : Nat) (cs : Array Value) (hg : g < L) : Keep L none w (w.setRow g cs) := ⟨by simp, fun q h1 _ _ => setRow_other _ _ _ _ (by omega)⟩
theorem new_row (w : World) (o : Obj) (cs : List Value) : RowAt ((w.alloc o).alloc (.cells cs.toArray 30)) (w.heap.size + 1) cs := by
  have := heap_alloc_new (w.alloc o) (.cells cs.toArray 30)
  rw [World.size_alloc] at this
  exact this

set_option maxRecDepth 100000 in
set_option maxHeartbeats 1600000 in
theorem copy_ex (n : Nat) (v : ValD) (w : World) (B N : Nat) (cs : List Value) (hn : n ≤ 65536) (hf : fitsV n v) (hN : N ≤ 4294967296) (hB : B ≤ w.heap.size) (hv : ValD.At w B N v cs) :
    Calls Tryz.prog 21 #[.agg cs.toArray] w (CopR N v w) := by
  have HV := Lib.hid hv
  have HF := Lib.hid hf
  have hl := Lib.hid (show (Tryz.prog.info? 30).map (·.size) = some cs.length by rw [hv.len]; exact sizeV)
  have H0 := Lib.hid (show Below w.heap.size w ((w.alloc (.cells cs.toArray 30)).alloc (.cells zeroV 30)) from belowThen (belowBox w _) (belowBox _ _))
  have R0 := Lib.hid (show CellsAt ((w.alloc (.cells cs.toArray 30)).alloc (.cells zeroV 30)) w.heap.size 0 cs from (box_at w cs 30).then (belowBox _ _) (by rw [World.size_alloc]; omega))
  have Q0 := Lib.hid (show RowAt ((w.alloc (.cells cs.toArray 30)).alloc (.cells zeroV 30)) (w.heap.size + 1) zeroV.toList from new_row w _ zeroV.toList)
  have hsz : ((w.alloc (.cells cs.toArray 30)).alloc (.cells zeroV 30)).heap.size = w.heap.size + 2 := by rw [World.size_alloc, World.size_alloc]
  have HSZ := Lib.hid hsz
  clear hv hf hsz
  go_enter Tryz.func21, Tryz.ntmps21
  go_wp2_with (refine wpList_load_mid rfl 30 _ rfl w.heap.size 0 rfl cs _ R0.out.range Tryz.underlying30 rfl hl.out ?_)
  refine (copied_ex n v _ B N cs 65536 (by omega) (by omega) HF.out hN (Nat.le_trans hB H0.out.size) (HV.out.below (H0.out.mono hB))).mono ?_
  rintro e w1 ⟨cs2, rfl, hsafe, hb⟩
  have hs1 : w.heap.size + 2 ≤ w1.heap.size := by have := hb.size; rw [HSZ.out] at this; exact this
  have Q1 := Lib.hid (Q0.out.below hb (by rw [HSZ.out]; omega))
  have H1 := Lib.hid (belowThen H0.out hb)
  have S1 := Lib.hid (show Safe (w.heap.size + 2) none w1 (fun c => ValD.At c c.heap.size N v cs2) by rw [← HSZ.out]; exact hsafe)
  have A1 := Lib.hid hsafe.here
  have hlen := hsafe.here.len
  clear hsafe hb
  go_wp2_with (refine wpList_store_row rfl 30 _ _ rfl (w.heap.size + 1) cs2.toArray rfl rfl 30 zeroV Q1.out (row_size hlen) (row_zero hlen) (row_ones A1.out) ?_)
  refine bodyPost_ret (results_cell_row rfl _ _ (w.heap.size + 1) 30 _ (0, 0) _ rfl (setRow_heap _ _ _ _ _ _ Q1.out) Tryz.underlying30 rfl (row_size hlen)) rfl ?_
  exact ⟨cs2, rfl, (S1.out.next (keep_setRow w1 (w.heap.size + 1) (w.heap.size + 2) _ (by omega)) (fun q _ h => by cases h)).wide (by omega), below_setRow H1.out (by omega) _⟩


theorem ParamsAt.cellAt {w : World} {B N : Nat} {b : Nat} : ∀ {l : List ParD} {o : Nat}, ParamsAt w B N l (some ⟨b, o, none⟩) → ∀ (j : Nat) u, (l.flatMap ParD.cells)[j]? = some u → w.cell? ⟨b, o + j, none⟩ = some u
  | [], _, _, j, u, hu => by simp at hu
  | p :: r, o, ⟨b', o', e, h2, h3, h4, h5⟩, j, u, hu => by
    cases e
    match j, hu with
    | 0, hu => exact (h4 0 (by simp [ParD.cells])).trans (by simpa [ParD.cells] using hu)
    | 1, hu => exact (h4 1 (by simp [ParD.cells])).trans (by simpa [ParD.cells] using hu)
    | j + 2, hu =>
      have := ParamsAt.cellAt h5 j u (by simpa [ParD.cells] using hu)
      rw [show o + (j + 2) = o + 2 + j by omega]
      exact this
theorem ParamsAt.src {w : World} {B N : Nat} {l : List ParD} {a : Option Addr} (h : ParamsAt w B N l a) : SrcAt w a l.length (l.flatMap ParD.cells) := by
  cases l with
  | nil => exact ⟨fun _ => rfl, fun ad _ j u hu => by simp at hu⟩
  | cons p r =>
    have h' := h
    obtain ⟨b, o, rfl, _⟩ := h'
    refine ⟨fun h => (by cases h), fun ad e j u hu => ?_⟩
    cases e
    rw [addr_add']
    exact ParamsAt.cellAt h j u hu
theorem par_len (l : List ParD) : (l.flatMap ParD.cells).length = l.length * 2 := by
  induction l with
  | nil => rfl
  | cons x r ih => rw [List.flatMap_cons, List.length_append, ih, List.length_cons]; simp [ParD.cells]; omega
theorem par_one (l : List ParD) : ∀ u ∈ l.flatMap ParD.cells, u.oneCell' = true := by
  intro u hu
  obtain ⟨x, _, hx⟩ := List.mem_flatMap.1 hu
  simp [ParD.cells] at hx
  rcases hx with rfl | rfl <;> rfl
/-- Some slice of so many. -/
def ParR (w : World) (e : Ending) (w' : World) : Prop := ∃ (a : Option Addr) (n c : Nat), e = .returned (.slice a n c) ∧ Below w.heap.size w w'
theorem infoPar : (Tryz.prog.info? 89).map (fun i => (i.zero, i.size, i.bytes)) = some (some (.agg #[.string ⟨#[]⟩, .bool false]), 2, 24) := by kernel_rfl
set_option maxRecDepth 100000 in
set_option maxHeartbeats 1600000 in
theorem clone_par (l : List ParD) (a : Option Addr) (c : Nat) (w : World) (B N : Nat) (hl : l.length ≤ 1073741824) (hB : B ≤ w.heap.size) (h : ParamsAt w B N l a) :
    Calls Tryz.prog 46 #[.slice a l.length c] w (ParR w) := by
  obtain ⟨i0, hi, hz0, hz1, hz2⟩ := info_parts infoPar
  have HI := Lib.hid hi
  have HZ0 := Lib.hid hz0
  have HZ1 := Lib.hid hz1
  have HZ2 := Lib.hid hz2
  clear hi hz0 hz1 hz2
  have q26 : ∀ (w : World) (a : Option Addr) (n c n' c' : Nat), (binOp .eql 60 (.slice a n c) (.slice none n' c')).run Tryz.prog w = .ok (.bool a.isNone) w := fun w a n c n' c' => Lib.run_eql_slice_nil w _ _ a n c n' c' Tryz.underlying60
  cases a with
  | none =>
    go_enter Tryz.func46, Tryz.ntmps46
    go_wp2_with fail
    go_ret
    exact ⟨_, _, _, rfl, Below.refl _ _⟩
  | some ad =>
    have HS := Lib.hid ((ParamsAt.below ((belowBox w (.cells #[] 89)).mono hB) _ h).src)
    have HLEN := Lib.hid (par_len l)
    clear h
    go_enter Tryz.func46, Tryz.ntmps46
    go_wp2_with (at_builtin; refine wpList_append_src rfl _ _ 60 rfl w.heap.size 89 i0 (.agg #[.string ⟨#[]⟩, .bool false]) 2 24 Tryz.underlying60 HI.out HZ0.out HZ1.out HZ2.out rfl (by decide) _ _ _ rfl (World.ownsRow_made w #[] 0 (Nat.le_refl _) (Nat.zero_le _) rfl) (some ad) l.length c (l.flatMap ParD.cells) rfl HLEN.out HS.out (par_one l) ?c4 ?c5 ?c6 ?_)
    case c4 => unfold maxLen; omega
    case c5 => omega
    case c6 => simp
    intro v1 w1 hown1 hgrow1
    obtain ⟨a1, c1, rfl⟩ := own_slice hown1
    have HB1 := Lib.hid (show Below w.heap.size w w1 from (belowBox w _).grown hgrow1 (by simp) (by intro k hk; simp [Value.ownBlock] at hk; omega))
    clear hown1 hgrow1
    go_wp2
    go_ret
    exact ⟨_, _, _, rfl, HB1.out⟩
end Go.Proofs.YtfegnmbdgdjkgaaGreat
