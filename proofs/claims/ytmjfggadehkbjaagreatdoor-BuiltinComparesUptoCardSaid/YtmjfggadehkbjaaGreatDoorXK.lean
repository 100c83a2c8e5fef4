/- builtin.whole, datakitref37.At, value.Copy, value.Field, datakitref07.Field: what they give. -/
import Derived.Test.YtmjfggadehkbjaaGreatDoorGD
import Derived.Test.YtmjfggadehkbjaaGreatDoorXH
import Derived.Test.YtmjfggadehkbjaaGreatDoorGB
import Derived.Test.YtmjfggadehkbjaaGreatDoorGC
import Derived.Test.YtmjfggadehkbjaaGreatDoorChkp
namespace Go.Proofs.YtmjfggadehkbjaaGreatDoor
open Go.RowKit

theorem results_cell_row2 {P : Program} {fn : Func} {p u : Tmp} {ty : TypeId} (h : fn.results = #[.cell p ty, .tmp u]) (tmps : Array Value) (w : World) (g : Nat) (t : TypeId) (cs : Array Value) (fr : Nat × Nat) (d : TypeDesc)
    (hp : tmps.getD p undef = .pointer (some ⟨g, 0, none⟩)) (hg : w.heap[g]? = some (.cells cs t fr))
    (hu : P.underlying ty = some d) (hd : (match d with | .struct _ | .array _ _ => true | _ => false) = true) (hi : (P.info? ty).map (·.size) = some cs.size) :
    (results fn tmps).run P w = .ok (.tuple #[.agg cs, tmps.getD u undef]) w := by
  have hp' : tmps[p]?.getD undef = .pointer (some ⟨g, 0, none⟩) := by simpa using hp
  simp [results, h, hp', asAddr, run_loadVar_row w g t ty cs fr d hg hu hd hi]
def toJ (d : DecD) : Int × Int := if d.exp < 0 then (0, 15) else toI d
def ToJR (d : DecD) (w : World) (e : Ending) (w' : World) : Prop := e = .returned (.tuple #[.int .i64 (toJ d).1, .int .i64 (toJ d).2]) ∧ Below w.heap.size w w'
def TwoR (n k : Int) (w : World) (e : Ending) (w' : World) : Prop := e = .returned (.tuple #[.int .i64 n, .int .i64 k]) ∧ Below w.heap.size w w'
theorem toJ_le (d : DecD) : (toJ d).2 = 0 → -9223372036854775808 ≤ (toJ d).1 ∧ (toJ d).1 ≤ 9223372036854775807 := by
  intro h
  unfold toJ at h ⊢
  split at h
  · simp at h
  · rename_i hx
    rw [if_neg hx]
    unfold toI at h ⊢
    split at h
    · simp at h
    · rename_i h19
      rw [if_neg h19]
      split at h
      · rename_i hm
        rw [if_pos hm]
        simp
      · rename_i hm
        rw [if_neg hm]
        rcases toIntF_cases (decT d) with ⟨n, h1, h2, _⟩ | ⟨h1, _⟩
        · rw [h1] at h ⊢
          simp only
          cases d.neg <;> simp <;> omega
        · rw [h1] at h
          simp at h
theorem toJ_zero (d : DecD) : (toJ d).2 ≠ 0 → (toJ d).1 = 0 := by
  intro h
  unfold toJ at h ⊢
  split
  · rfl
  · rename_i hx
    rw [if_neg hx] at h
    unfold toI at h ⊢
    split
    · rfl
    · rename_i h19
      rw [if_neg h19] at h
      split
      · rename_i hm
        rw [if_pos hm] at h
        simp at h
      · rename_i hm
        rw [if_neg hm] at h
        rcases toIntF_cases (decT d) with ⟨n, h1, h2, _⟩ | ⟨h1, _⟩
        · rw [h1] at h
          simp at h
        · rw [h1]
          simp
/-- An integer, or one that is far away. -/
def whD (d : DecD) : Int := if (toJ d).2 = 0 then (if (toJ d).1 < -1099511627776 then -1099511627776 else if 1099511627776 < (toJ d).1 then 1099511627776 else (toJ d).1) else if d.neg = true then -1099511627776 else 1099511627776
theorem whD_range (d : DecD) : -1099511627776 ≤ whD d ∧ whD d ≤ 1099511627776 := by
  unfold whD
  split
  · split
    · omega
    · split <;> omega
  · split <;> omega
def WhR (d : DecD) (w : World) (e : Ending) (w' : World) : Prop := e = .returned (.int .i64 (whD d)) ∧ Below w.heap.size w w'
/-- The index that a number means among so many; -1: none. -/
def atD (d : DecD) (n : Nat) : Int := if (toJ d).2 = 0 then (if (toJ d).1 < 0 then (if -(n : Int) ≤ (toJ d).1 then (toJ d).1 + n else -1) else if (toJ d).1 < n then (toJ d).1 else -1) else -1
def AtR (d : DecD) (n : Nat) (w : World) (e : Ending) (w' : World) : Prop := e = .returned (.int .i64 (atD d n)) ∧ Below w.heap.size w w'
/-- What the program does with it. -/
theorem atD_wh (d : DecD) (n : Nat) (hn : n ≤ 4294967296) : (whD d < 0 → (whD d + n < 0 → atD d n = -1) ∧ (0 ≤ whD d + n → atD d n = whD d + n)) ∧ (0 ≤ whD d → (whD d < n → atD d n = whD d) ∧ ((n : Int) ≤ whD d → atD d n = -1)) := by
  unfold whD atD
  by_cases h : (toJ d).2 = 0
  · rw [if_pos h, if_pos h]
    generalize (toJ d).1 = x
    by_cases h1 : x < -1099511627776
    · rw [if_pos h1, if_pos (by omega), if_neg (by omega)]
      exact ⟨fun _ => ⟨fun _ => rfl, fun _ => by omega⟩, fun _ => by omega⟩
    · rw [if_neg h1]
      by_cases h2 : 1099511627776 < x
      · rw [if_pos h2, if_neg (by omega), if_neg (by omega)]
        exact ⟨fun _ => by omega, fun _ => ⟨fun _ => by omega, fun _ => rfl⟩⟩
      · rw [if_neg h2]
        by_cases h3 : x < 0
        · rw [if_pos h3]
          by_cases h4 : -(n : Int) ≤ x
          · rw [if_pos h4]
            exact ⟨fun _ => ⟨fun _ => by omega, fun _ => rfl⟩, fun _ => by omega⟩
          · rw [if_neg h4]
            exact ⟨fun _ => ⟨fun _ => rfl, fun _ => by omega⟩, fun _ => by omega⟩
        · rw [if_neg h3]
          by_cases h4 : x < n
          · rw [if_pos h4]
            exact ⟨fun _ => by omega, fun _ => ⟨fun _ => rfl, fun _ => by omega⟩⟩
          · rw [if_neg h4]
            exact ⟨fun _ => by omega, fun _ => ⟨fun _ => by omega, fun _ => rfl⟩⟩
  · rw [if_neg h, if_neg h]
    cases d.neg
    · rw [if_neg (by simp)]
      exact ⟨fun _ => by omega, fun _ => ⟨fun _ => by omega, fun _ => rfl⟩⟩
    · rw [if_pos rfl]
      exact ⟨fun _ => ⟨fun _ => rfl, fun _ => by omega⟩, fun _ => by omega⟩
theorem atD_range (d : DecD) (n : Nat) : -1 ≤ atD d n ∧ atD d n < n ∨ atD d n = -1 := by
  unfold atD
  split
  · split
    · split <;> omega
    · split <;> omega
  · omega
end Go.Proofs.YtmjfggadehkbjaaGreatDoor

/- value.Copy, value.Field, datakitref07.Field: what they give. -/
namespace Go.Proofs.YtmjfggadehkbjaaGreatDoor
open Go.RowKit

def zeroD : ValD := .mk 0 false ⟨false, ⟨#[]⟩, 0⟩ ⟨0, 0, 0, 0⟩ ⟨#[]⟩ [] [] []
theorem i64_0 : I64 0 := ⟨by omega, by omega⟩
theorem zeroD_at (w : World) (B N : Nat) : ValD.At w B N zeroD zeroV.toList :=
  ⟨none, none, none, 0, 0, 0, rfl, ⟨i64_0, i64_0, i64_0, i64_0, i64_0, i64_0, Nat.zero_le _, Nat.zero_le _, Nat.zero_le _, Nat.zero_le _, Nat.zero_le _⟩, .inl rfl, trivial, trivial⟩
theorem sizeZ : (Tryz.prog.info? 30).map (·.size) = some zeroV.size := sizeV
theorem oneZ : zeroV.all (·.oneCell') = true := by kernel_rfl
theorem row_size {cs : List Value} (h : cs.length = 13) : (Tryz.prog.info? 30).map (·.size) = some cs.toArray.size := by rw [List.size_toArray, h]; exact sizeV
theorem row_zero {cs : List Value} (h : cs.length = 13) : zeroV.toList.toArray.size = cs.toArray.size := by rw [List.size_toArray, List.size_toArray, h]; rfl
theorem row_ones {w : World} {B N : Nat} {v : ValD} {cs : List Value} (h : ValD.At w B N v cs) : cs.toArray.all (·.oneCell') = true := Go.all_oneCell_toArray h.oneCell
theorem keep_setRow (w : World) (g L : Nat) (cs : Array Value) (hg : g < L) : Keep L none w (w.setRow g cs) := ⟨by simp, fun q h1 _ _ => setRow_other _ _ _ _ (by omega)⟩
theorem new_row (w : World) (o : Obj) (cs : List Value) : RowAt ((w.alloc o).alloc (.cells cs.toArray 30)) (w.heap.size + 1) cs := by
  have := heap_alloc_new (w.alloc o) (.cells cs.toArray 30)
  rw [World.size_alloc] at this
  exact this

set_option maxRecDepth 100000 in
set_option maxHeartbeats 1600000 in
theorem copy_ex (n : Nat) (v : ValD) (w : World) (B N : Nat) (cs : List Value) (hn : n ≤ 65536) (hf : fitsV n v) (hN : N ≤ 4294967296) (hB : B ≤ w.heap.size) (hv : ValD.At w B N v cs) :
    Calls Tryz.prog 105 #[.agg cs.toArray] w (CopR N v w) := by
  have HV := Lib.hid hv
  have HF := Lib.hid hf
  have hl := Lib.hid (show (Tryz.prog.info? 30).map (·.size) = some cs.length by rw [hv.len]; exact sizeV)
  have H0 := Lib.hid (show Below w.heap.size w ((w.alloc (.cells cs.toArray 30)).alloc (.cells zeroV 30)) from belowThen (belowBox w _) (belowBox _ _))
  have R0 := Lib.hid (show CellsAt ((w.alloc (.cells cs.toArray 30)).alloc (.cells zeroV 30)) w.heap.size 0 cs from (box_at w cs 30).then (belowBox _ _) (by rw [World.size_alloc]; omega))
  have Q0 := Lib.hid (show RowAt ((w.alloc (.cells cs.toArray 30)).alloc (.cells zeroV 30)) (w.heap.size + 1) zeroV.toList from new_row w _ zeroV.toList)
  have hsz : ((w.alloc (.cells cs.toArray 30)).alloc (.cells zeroV 30)).heap.size = w.heap.size + 2 := by rw [World.size_alloc, World.size_alloc]
  have HSZ := Lib.hid hsz
  clear hv hf hsz
  go_enter Tryz.func105, Tryz.ntmps105
  go_wp2_with (refine wpList_load_mid rfl 30 _ rfl w.heap.size 0 rfl cs _ R0.out.range Tryz.underlying30 rfl hl.out ?_)
  refine (copied_ex n v _ B N cs 65536 (by omega) (by omega) HF.out hN (Nat.le_trans hB H0.out.size) (HV.out.below (H0.out.mono hB))).mono ?_
  rintro e w1 ⟨cs2, rfl, hsafe, hb⟩
  have hs1 : w.heap.size + 2 ≤ w1.heap.size := by have := hb.size; rw [HSZ.out] at this; exact this
  have Q1 := Lib.hid (Q0.out.below hb (by rw [HSZ.out]; omega))
  have H1 := Lib.hid (belowThen H0.out hb)
  have S1 := Lib.hid (show Safe (w.heap.size + 2) none w1 (fun c => ValD.At c c.heap.size N v cs2) by rw [← HSZ.out]; exact hsafe)
  have A1 := Lib.hid hsafe.here
  have hlen := hsafe.here.len
  clear hsafe hb
  go_wp2_with (refine wpList_store_row rfl 30 _ _ rfl (w.heap.size + 1) cs2.toArray rfl rfl 30 zeroV Q1.out (row_size hlen) (row_zero hlen) (row_ones A1.out) ?_)
  refine bodyPost_ret (results_cell_row rfl _ _ (w.heap.size + 1) 30 _ (0, 0) _ rfl (setRow_heap _ _ _ _ _ _ Q1.out) Tryz.underlying30 rfl (row_size hlen)) rfl ?_
  exact ⟨cs2, rfl, (S1.out.next (keep_setRow w1 (w.heap.size + 1) (w.heap.size + 2) _ (by omega)) (fun q _ h => by cases h)).wide (by omega), below_setRow H1.out (by omega) _⟩

/-- The value under a key; the zero value if there is none. -/
def fieldV (key : ByteArray) : List (ByteArray × ValD) → ValD
  | [] => zeroD
  | (k, v) :: r => if k.toList = key.toList then v else fieldV key r
theorem fieldV_hit {key : ByteArray} {l : List (ByteArray × ValD)} {k : Nat} (h : k < l.length) (he : l[k].1.toList = key.toList) : fieldV key (l.drop k) = l[k].2 := by
  rw [List.drop_eq_getElem_cons h, ← Prod.eta l[k]]
  simp [fieldV, he]
theorem fieldV_miss {key : ByteArray} {l : List (ByteArray × ValD)} {k : Nat} (h : k < l.length) (he : ¬ l[k].1.toList = key.toList) : fieldV key (l.drop k) = fieldV key (l.drop (k + 1)) := by
  rw [List.drop_eq_getElem_cons h, ← Prod.eta l[k]]
  simp [fieldV, he]
theorem fieldV_end {key : ByteArray} {l : List (ByteArray × ValD)} : fieldV key (l.drop l.length) = zeroD := by rw [List.drop_length]; rfl
/-- Below B and from L on, c is as w. -/
structure Apart (B L : Nat) (w c : World) : Prop where
  os : c.os = w.os
  tape : c.tape = w.tape
  output : c.output = w.output
  size : w.heap.size ≤ c.heap.size
  block : ∀ q, q < w.heap.size → q < B ∨ L ≤ q → c.heap[q]? = w.heap[q]?
theorem Apart.below {B L : Nat} {w c : World} (h : Apart B L w c) (hB : B ≤ w.heap.size) : Below B w c := ⟨h.os, h.tape, h.output, h.size, fun q hq => h.block q (by omega) (.inl hq)⟩
theorem Apart.keep {B L : Nat} {w c : World} (h : Apart B L w c) : Keep L none w c := ⟨h.size, fun q h1 h2 _ => h.block q h2 (.inr h1)⟩
theorem Apart.of_setRow {B L g : Nat} {w : World} (o : Obj) (cs : Array Value) (h1 : B ≤ g) (h2 : g < L) : Apart B L w ((w.alloc o).setRow g cs) := by
  refine ⟨rfl, rfl, rfl, by simp, fun q hq hor => ?_⟩
  rw [setRow_other _ _ _ _ (by omega)]
  exact heap_alloc_old w o hq
theorem Apart.of_setRow0 {B L g : Nat} {w : World} (cs : Array Value) (h1 : B ≤ g) (h2 : g < L) : Apart B L w (w.setRow g cs) := by
  refine ⟨rfl, rfl, rfl, by simp, fun q hq hor => ?_⟩
  rw [setRow_other _ _ _ _ (by omega)]
def Solid (B L : Nat) (w : World) (T : World → Prop) : Prop := ∀ c, Apart B L w c → T c
theorem Solid.here {B L : Nat} {w : World} {T : World → Prop} (h : Solid B L w T) : T w := h w ⟨rfl, rfl, rfl, Nat.le_refl _, fun _ _ _ => rfl⟩
def FldR (B N : Nat) (v : ValD) (w : World) (e : Ending) (w' : World) : Prop := ∃ (cs : List Value) (b : Bool), e = .returned (.tuple #[.agg cs.toArray, .bool b]) ∧ Solid B w.heap.size w' (fun c => ValD.At c c.heap.size N v cs) ∧ Below w.heap.size w w'

end Go.Proofs.YtmjfggadehkbjaaGreatDoor

/- The reference's validity of values: what it means that it finds nothing wrong: the number is valid, and only lists have elements. -/
namespace Go.Proofs.YtmjfggadehkbjaaGreatDoor
open Go.RowKit

def OwnR (v : ValD) (w : World) (e : Ending) (w' : World) : Prop := ∃ b, e = .returned (.bool b) ∧ (b = true → v.kind ≠ 6 → v.list = []) ∧ Below w.heap.size w w'
def OneR (v : ValD) (w : World) (e : Ending) (w' : World) : Prop := ∃ k : Int, e = .returned (.int .i64 k) ∧ (k = 0 → VDec v.num ∧ (v.kind ≠ 6 → v.list = [])) ∧ Below w.heap.size w w'
def LookR (v : ValD) (w : World) (e : Ending) (w' : World) : Prop := ∃ (x y : Int), e = .returned (.tuple #[.int .i64 x, .int .i64 y]) ∧ (y = 0 → VDec v.num ∧ (v.kind ≠ 6 → v.list = [])) ∧ Below w.heap.size w w'
def ChkR (v : ValD) (w : World) (e : Ending) (w' : World) : Prop := ∃ k : Int, e = .returned (.int .i64 k) ∧ (k = 0 → VDec v.num ∧ (v.kind ≠ 6 → v.list = [])) ∧ Below w.heap.size w w'
set_option maxRecDepth 100000 in
set_option maxHeartbeats 3200000 in
theorem own_ex (v : ValD) (w : World) (B N : Nat) (cs : List Value) (hv : ValD.At w B N v cs) : Calls Tryz.prog 139 #[.agg cs.toArray] w (OwnR v w) := by
  by_cases hz : v.kind ≠ 6 → v.list = []
  · have HZ := Lib.hid hz
    clear hz
    refine (own_any v w B N cs hv).mono ?_
    rintro e w' ⟨b, rfl, hb⟩
    exact ⟨b, rfl, fun _ => HZ.out, hb⟩
  · have hk : ¬ v.kind = 6 := fun h => hz (fun g => absurd h g)
    have hl : 0 < v.list.length := by
      rcases Nat.eq_zero_or_pos v.list.length with h | h
      · exact absurd (fun _ => List.length_eq_zero_iff.1 h) hz
      · exact h
    have hk6 : (v.kind == 6) = false := by simp [hk]
    have hl0 : ((v.list.length : Int) == 0) = false := by simp; intro e; rw [e] at hl; simp at hl
    clear hz
    obtain ⟨ya, la, va, yc, lc, vc, hh⟩ := hv.has
    clear hv
    have c0 := hh.kind
    have c1 := hh.bool
    have c2 := hh.neg
    have c3 := hh.digits
    have c4 := hh.exp
    have c5 := hh.tkind
    have c6 := hh.day
    have c7 := hh.nano
    have c8 := hh.offset
    have c9 := hh.text
    have c10 := hh.bytes
    have c11 := hh.list
    have c12 := hh.fields
    clear hh
    have E1 := eqDEC0 v.num
    have E2 := eqTIME0 v.time
    have G1 := guardDEC
    have G2 := guardTIME
    generalize hn : v.list.length = n at *
    clear hn
    go_enter Tryz.func139, Tryz.ntmps139
    go_wp2
    all_goals first
      | (go_ret; exact ⟨false, rfl, fun h => (by cases h), Below.box _ _⟩)
      | (exfalso; omega)
      | (exfalso; simp_all; done)
      | (exfalso; simp_all; omega)

set_option maxRecDepth 100000 in
set_option maxHeartbeats 3200000 in
theorem one_ex (v : ValD) (w : World) (B N : Nat) (cs : List Value) (hN : N ≤ 4294967296) (hB : B ≤ w.heap.size) (hv : ValD.At w B N v cs) : Calls Tryz.prog 86 #[.agg cs.toArray] w (OneR v w) := by
  obtain ⟨ya, la, va, yc, lc, vc, hh⟩ := hv.has
  have HV := Lib.hid hv
  have hds : v.num.digits.size ≤ N := hh.own.2.2.2.2.2.2.1
  have hts : v.text.size ≤ N := hh.own.2.2.2.2.2.2.2.1
  have hfs : v.fields.length ≤ N := hh.own.2.2.2.2.2.2.2.2.2.2
  have HH := Lib.hid hh
  have hl := Lib.hid (show (Tryz.prog.info? 30).map (·.size) = some cs.length by rw [hv.len]; exact sizeV)
  have HR := Lib.hid (box_at w cs 30)
  have H0 := Lib.hid (show Below w.heap.size w (w.alloc (.cells cs.toArray 30)) from belowBox w _)
  clear hh hv
  go_enter Tryz.func86, Tryz.ntmps86
  go_wp2_with (refine wpList_load_mid rfl 30 _ rfl w.heap.size 0 rfl cs _ (box_at w cs 30).range Tryz.underlying30 rfl hl.out ?_)
  refine (own_ex v _ B N cs (HV.out.below (H0.out.mono hB))).mono ?_
  rintro e w1 ⟨b1, rfl, ho1, hb1⟩
  have hs0 : w.heap.size < (w.alloc (.cells cs.toArray 30)).heap.size := by rw [World.size_alloc]; omega
  have R1 := Lib.hid (HR.out.then hb1 hs0)
  have H1 := Lib.hid (belowThen H0.out hb1)
  have hs1 : w.heap.size < w1.heap.size := Nat.lt_of_lt_of_le hs0 hb1.size
  clear hb1 HR H0 hs0
  cases b1
  · clear ho1
    go_wp2_with fail
    go_ret
    exact ⟨_, rfl, fun h => absurd h (by decide), H1.out⟩
  have HO1 := Lib.hid (ho1 rfl)
  clear ho1
  have d2 := R1.out.get0 HH.out.neg
  have d3 := R1.out.get0 HH.out.digits
  have d4 := R1.out.get0 HH.out.exp
  go_wp2_with fail
  refine (valid02_ex v.num _ (by unfold maxLen; omega)).mono ?_
  rintro e w2 ⟨b2, rfl, hd2, hb2⟩
  have R2 := Lib.hid (R1.out.then hb2 hs1)
  have H2 := Lib.hid (belowThen H1.out hb2)
  have hs2 : w.heap.size < w2.heap.size := Nat.lt_of_lt_of_le hs1 hb2.size
  clear hb2 R1 H1 hs1 d2 d3 d4
  cases b2
  · clear hd2
    go_wp2_with fail
    go_ret
    exact ⟨_, rfl, fun h => absurd h (by decide), H2.out⟩
  have HQ := Lib.hid (show VDec v.num ∧ (v.kind ≠ 6 → v.list = []) from ⟨hd2 rfl, HO1.out⟩)
  clear hd2
  have d0 := R2.out.get0 HH.out.kind
  have d5 := R2.out.get0 HH.out.tkind
  have d6 := R2.out.get0 HH.out.day
  have d7 := R2.out.get0 HH.out.nano
  have d8 := R2.out.get0 HH.out.offset
  have d9 := R2.out.get0 HH.out.text
  have d10 := R2.out.get0 HH.out.bytes
  have d12 := R2.out.get0 HH.out.fields
  -- what stands behind the test of the time
  have rest : ∀ w3 : World, Below w2.heap.size w2 w3 → w.heap.size < w3.heap.size ∧ Below w.heap.size w w3 ∧ w3.cell? ⟨w.heap.size, 9, none⟩ = some (.string v.text) ∧ w3.cell? ⟨w.heap.size, 10, none⟩ = some (.slice ya v.bytes.length yc) ∧ w3.cell? ⟨w.heap.size, 12, none⟩ = some (.slice va v.fields.length vc) := fun w3 hb3 =>
    ⟨Nat.lt_of_lt_of_le hs2 hb3.size, belowThen H2.out hb3, (hb3.cell (p := ⟨w.heap.size, 9, none⟩) hs2).trans d9, (hb3.cell (p := ⟨w.heap.size, 10, none⟩) hs2).trans d10, (hb3.cell (p := ⟨w.heap.size, 12, none⟩) hs2).trans d12⟩
  have REST := Lib.hid rest
  clear rest d9 d10 d12
  by_cases hk : v.kind = 3
  · rw [hk] at d0
    go_wp2_with fail
    refine (valid05_any v.time _).mono ?_
    rintro e w3 ⟨b3, rfl, hb3⟩
    obtain ⟨hs3, h3, d9, d10, d12⟩ := REST.out _ hb3
    have H3 := Lib.hid h3
    clear hb3 h3 d0 d5 d6 d7 d8 R2 H2 hs2
    cases b3
    · go_wp2_with fail
      go_ret
      exact ⟨_, rfl, fun _ => HQ.out, H3.out⟩
    go_wp2_with fail
    refine (valid_any v.text _ (by omega)).mono ?_
    rintro e w4 ⟨b4, rfl, hb4⟩
    have H4 := Lib.hid (belowThen H3.out hb4)
    have d9' := (hb4.cell (p := ⟨w.heap.size, 9, none⟩) hs3).trans d9
    have d10' := (hb4.cell (p := ⟨w.heap.size, 10, none⟩) hs3).trans d10
    have d12' := (hb4.cell (p := ⟨w.heap.size, 12, none⟩) hs3).trans d12
    clear hb4 d9 d10 d12
    cases b4
    · go_wp2_with fail
      go_ret
      exact ⟨_, rfl, fun _ => HQ.out, H4.out⟩
    go_wp2_with fail
    all_goals first
      | (go_ret; exact ⟨_, rfl, fun _ => HQ.out, H4.out⟩)
      | (refine (keys_any v.fields va vc _ B N hN hfs (Nat.le_trans hB H4.out.size) (HH.out.atFields.below (H4.out.mono hB))).mono ?_
         rintro e w5 ⟨k5, rfl, hb5⟩
         have H5 := Lib.hid (belowThen H4.out hb5)
         clear hb5
         go_wp2_with fail
         go_ret
         exact ⟨_, rfl, fun _ => HQ.out, H5.out⟩)
  · have hk' : (v.kind == 3) = false := by simpa using hk
    clear hk
    obtain ⟨hs3, h3, d9, d10, d12⟩ := REST.out _ (Below.refl _ _)
    have H3 := Lib.hid h3
    clear h3 d5 d6 d7 d8 R2 H2 hs2
    go_wp2_with fail
    refine (valid_any v.text _ (by omega)).mono ?_
    rintro e w4 ⟨b4, rfl, hb4⟩
    have H4 := Lib.hid (belowThen H3.out hb4)
    have d9' := (hb4.cell (p := ⟨w.heap.size, 9, none⟩) hs3).trans d9
    have d10' := (hb4.cell (p := ⟨w.heap.size, 10, none⟩) hs3).trans d10
    have d12' := (hb4.cell (p := ⟨w.heap.size, 12, none⟩) hs3).trans d12
    clear hb4 d0 d9 d10 d12
    cases b4
    · go_wp2_with fail
      go_ret
      exact ⟨_, rfl, fun _ => HQ.out, H4.out⟩
    go_wp2_with fail
    all_goals first
      | (go_ret; exact ⟨_, rfl, fun _ => HQ.out, H4.out⟩)
      | (refine (keys_any v.fields va vc _ B N hN hfs (Nat.le_trans hB H4.out.size) (HH.out.atFields.below (H4.out.mono hB))).mono ?_
         rintro e w5 ⟨k5, rfl, hb5⟩
         have H5 := Lib.hid (belowThen H4.out hb5)
         clear hb5
         go_wp2_with fail
         go_ret
         exact ⟨_, rfl, fun _ => HQ.out, H5.out⟩)
set_option maxRecDepth 100000 in
set_option maxHeartbeats 1600000 in
theorem look_ex (m : Nat) : ∀ (v : ValD) (w : World) (B N : Nat) (cs : List Value) (depth : Nat) (seen : Int), depth + m = 49 → N ≤ 4294967296 → B ≤ w.heap.size → ValD.At w B N v cs →
    Calls Tryz.prog 39 #[.agg cs.toArray, .int .i64 depth, .int .i64 seen] w (LookR v w) := by
  induction m with
  | zero =>
    intro v w B N cs depth seen hd hN hB hv
    clear hv
    go_enter Tryz.func39, Tryz.ntmps39
    go_wp2_with fail
    go_ret2
    exact ⟨_, _, rfl, fun h => absurd h (by decide), belowBox w _⟩
  | succ m ih =>
    intro v w B N cs depth seen hd hN hB hv
    have IH := Lib.hid ih
    have hd' : depth ≤ 48 := by omega
    have HD := Lib.hid hd
    have HV := Lib.hid hv
    have hl := Lib.hid (show (Tryz.prog.info? 30).map (·.size) = some cs.length by rw [hv.len]; exact sizeV)
    have H0 := Lib.hid (show Below w.heap.size w (w.alloc (.cells cs.toArray 30)) from belowBox w _)
    clear ih hv hd
    by_cases hs : 65536 ≤ seen
    · go_enter Tryz.func39, Tryz.ntmps39
      go_wp2_with fail
      go_ret2
      exact ⟨_, _, rfl, fun h => absurd h (by decide), H0.out⟩
    go_enter Tryz.func39, Tryz.ntmps39
    go_wp2_with (refine wpList_load_mid rfl 30 _ rfl w.heap.size 0 rfl cs _ (box_at w cs 30).range Tryz.underlying30 rfl hl.out ?_)
    refine (one_ex v _ B N cs hN (Nat.le_trans hB H0.out.size) (HV.out.below (H0.out.mono hB))).mono ?_
    rintro e w1 ⟨k1, rfl, hq1, hb1⟩
    have hs0 : w.heap.size < (w.alloc (.cells cs.toArray 30)).heap.size := by rw [World.size_alloc]; omega
    have R1 := Lib.hid ((box_at w cs 30).then hb1 hs0)
    have H1 := Lib.hid (belowThen H0.out hb1)
    have hs1 : w.heap.size < w1.heap.size := Nat.lt_of_lt_of_le hs0 hb1.size
    clear hb1 H0 hs0
    by_cases hk1 : k1 = 0
    · have HQ := Lib.hid (hq1 hk1)
      clear hq1
      subst hk1
      go_wp2_with (refine wpList_load_mid rfl 30 _ rfl w.heap.size 0 rfl cs _ R1.out.range Tryz.underlying30 rfl hl.out ?_)
      refine (kids_any v _ B N cs hN (Nat.le_trans hB H1.out.size) (HV.out.below (H1.out.mono hB))).mono ?_
      rintro e w2 ⟨a, c, rfl, hvs, hb2⟩
      have H2 := Lib.hid (belowThen H1.out hb2)
      have HS := Lib.hid hvs
      have hkl := kids_len HV.out
      clear hb2 hvs R1 H1 hs1
      go_wp2_with fail
      go_simp
      go_loopw [2, 10, 11] (fun s i _ wr => ∃ (x : Int) (k : Nat), k ≤ (kidsD v).length ∧ s = .int .i64 x ∧ i = .int .i64 k ∧ Below w2.heap.size w2 wr) (fun _ i _ _ => (kidsD v).length - (intOf i).toNat)
      case atStart => exact ⟨_, 0, by omega, rfl, rfl, Below.refl _ _⟩
      case round =>
        obtain ⟨x, k, hk, rfl, rfl, hbel⟩ := hrel
        have HB := Lib.hid hbel
        clear hbel
        by_cases hlt : k < (kidsD v).length
        · obtain ⟨b, o, rfl, hb, hget⟩ := HS.out.get (by intro h; simp [h] at hlt)
          obtain ⟨cs1, h1, h2⟩ := hget k hlt
          have HR := Lib.hid (h1.below HB.out hb).range
          have H4 := Lib.hid (h2.below HB.out)
          have hl1 := Lib.hid (show (Tryz.prog.info? 30).map (·.size) = some cs1.length by rw [h2.len]; exact sizeV)
          clear h1 h2 hget
          go_wp2_with (refine wpList_load_mid rfl 30 _ rfl b (o + k * 13) rfl cs1 _ HR.out Tryz.underlying30 rfl hl1.out ?_)
          refine (IH.out _ _ w2.heap.size N _ (depth + 1) x (by have := HD.out; omega) hN HB.out.size H4.out).mono ?_
          rintro e1 w3 ⟨y, z, rfl, _, hb3⟩
          have HB3 := Lib.hid (belowThen HB.out hb3)
          clear hb3
          by_cases hz : z = 0
          · subst hz
            go_wp2_with fail
            go_roundw
            case rel => exact ⟨y, k + 1, by omega, rfl, by go_num, HB3.out⟩
            case measure => simp [intOf]; omega
          · have hz' : (z == 0) = false := by simpa using hz
            clear hz
            go_wp2_with fail
            go_ret2
            exact ⟨_, _, rfl, fun _ => HQ.out, belowThen H2.out HB3.out⟩
        · go_wp2_with fail
          go_ret2
          exact ⟨_, _, rfl, fun _ => HQ.out, belowThen H2.out HB.out⟩
    · have hk1' : (k1 == 0) = false := by simpa using hk1
      have HK1 := Lib.hid hk1
      clear hk1 hq1
      go_wp2_with fail
      go_ret2
      exact ⟨_, _, rfl, fun h => absurd h HK1.out, H1.out⟩

theorem check07_ex (v : ValD) (w : World) (B N : Nat) (cs : List Value) (hN : N ≤ 4294967296) (hB : B ≤ w.heap.size) (hv : ValD.At w B N v cs) :
    Calls Tryz.prog 14 #[.agg cs.toArray] w (ChkR v w) := by
  have HV := Lib.hid hv
  have hl := Lib.hid (show (Tryz.prog.info? 30).map (·.size) = some cs.length by rw [hv.len]; exact sizeV)
  have H0 := Lib.hid (show Below w.heap.size w (w.alloc (.cells cs.toArray 30)) from belowBox w _)
  clear hv
  go_enter Tryz.func14, Tryz.ntmps14
  go_wp2_with (refine wpList_load_mid rfl 30 _ rfl w.heap.size 0 rfl cs _ (box_at w cs 30).range Tryz.underlying30 rfl hl.out ?_)
  refine (look_ex 48 v _ B N cs 1 0 (by omega) hN (Nat.le_trans hB H0.out.size) (HV.out.below (H0.out.mono hB))).mono ?_
  rintro e w1 ⟨x, y, rfl, hq, hb1⟩
  have H1 := Lib.hid (belowThen H0.out hb1)
  have HQ := Lib.hid hq
  clear hb1 hq
  go_wp2_with fail
  go_ret
  exact ⟨_, rfl, HQ.out, H1.out⟩
end Go.Proofs.YtmjfggadehkbjaaGreatDoor

/- builtin.Index: what it gives. -/
namespace Go.Proofs.YtmjfggadehkbjaaGreatDoor
open Go.RowKit

/-- What Index gives. -/
def idxD (v i : ValD) : ValD × Int :=
  if v.kind = 7 ∧ i.kind = 4 then (fieldV i.text v.fields, 0)
  else if v.kind = 0 ∧ i.kind = 4 then (zeroD, 0)
  else if (v.kind = 6 ∨ v.kind = 0) ∧ i.kind = 2 then
    if i.num.exp < 0 then (zeroD, 15) else if 0 ≤ atD i.num v.list.length then (v.list.getD (atD i.num v.list.length).toNat zeroD, 0) else (zeroD, 0)
  else (zeroD, 6)
def IdxR (N : Nat) (r : ValD × Int) (w : World) (e : Ending) (w' : World) : Prop := ∃ (cs : List Value), e = .returned (.tuple #[.agg cs.toArray, .int .i64 r.2]) ∧ ValD.At w' w'.heap.size N r.1 cs ∧ Below w.heap.size w w'
theorem idx_zero {N : Nat} {w w1 : World} {g : Nat} {k : Int} {r : ValD × Int} (hr : r = (zeroD, k)) (hg : w.heap.size ≤ g) (hb : Below w.heap.size w w1) : IdxR N r w (.returned (.tuple #[.agg zeroV, .int .i64 k])) (w1.setRow g zeroV) := by
  rw [hr]
  exact ⟨zeroV.toList, rfl, zeroD_at _ _ _, below_setRow hb hg _⟩

/-- Three boxes: two values, and the zero value for the result. -/
structure Three (w W : World) (cs ds : List Value) : Prop where
  below : Below w.heap.size w W
  one : CellsAt W w.heap.size 0 cs
  two : CellsAt W (w.heap.size + 1) 0 ds
  out : RowAt W (w.heap.size + 1 + 1) zeroV.toList
  size : w.heap.size + 3 ≤ W.heap.size
theorem Three.later {w W W' : World} {cs ds : List Value} (h : Three w W cs ds) (hb : Below W.heap.size W W') : Three w W' cs ds :=
  ⟨belowThen h.below hb, h.one.below hb (by have := h.size; omega), h.two.below hb (by have := h.size; omega), h.out.below hb (by have := h.size; omega), Nat.le_trans h.size hb.size⟩
theorem three_boxes (w : World) (cs ds : List Value) (n : Nat) : Three w ((((w.alloc (.cells cs.toArray 30)).alloc (.cells ds.toArray 30)).alloc (.cells zeroV 30)).drewN n) cs ds := by
  have hs1 : (w.alloc (.cells cs.toArray 30)).heap.size = w.heap.size + 1 := by rw [World.size_alloc]
  have hs2 : ((w.alloc (.cells cs.toArray 30)).alloc (.cells ds.toArray 30)).heap.size = w.heap.size + 2 := by rw [World.size_alloc, World.size_alloc]
  have hs3 : (((w.alloc (.cells cs.toArray 30)).alloc (.cells ds.toArray 30)).alloc (.cells zeroV 30)).heap.size = w.heap.size + 3 := by rw [World.size_alloc, World.size_alloc, World.size_alloc]
  refine Three.later (W := ((w.alloc (.cells cs.toArray 30)).alloc (.cells ds.toArray 30)).alloc (.cells zeroV 30)) ⟨belowThen (belowThen (belowBox w _) (belowBox _ _)) (belowBox _ _), ((box_at w cs 30).then (belowBox _ _) (by omega)).then (belowBox _ _) (by omega), ?_, ?_, by omega⟩ (below_drewN _ _)
  · have := box_at (w.alloc (.cells cs.toArray 30)) ds 30
    rw [hs1] at this
    exact this.then (belowBox _ _) (by omega)
  · have := heap_alloc_new ((w.alloc (.cells cs.toArray 30)).alloc (.cells ds.toArray 30)) (.cells zeroV 30)
    rw [hs2] at this
    exact this

end Go.Proofs.YtmjfggadehkbjaaGreatDoor

/- datakitref37.Index: what it gives: the same as builtin.Index. -/
namespace Go.Proofs.YtmjfggadehkbjaaGreatDoor
open Go.RowKit

def NoneR (k : Int) (w : World) (e : Ending) (w' : World) : Prop := e = .returned (.tuple #[.agg zeroV, .int .i64 k]) ∧ Below w.heap.size w w'
theorem none_ref (k : Int) (w : World) : Calls Tryz.prog 19 #[.int .i64 k] w (NoneR k w) := by
  go_enter Tryz.func19, Tryz.ntmps19
  go_wp2_with ((with_reducible show wpList _ _ _ (⟨none, .store 30 (.tmp 2) _, _, _, _, _⟩ :: _) _ _); refine wpList_store_row rfl 30 _ _ rfl w.heap.size zeroV rfl rfl 30 zeroV (heap_alloc_new w _) sizeZ rfl oneZ ?_)
  refine bodyPost_ret (results_cell_row2 rfl _ _ w.heap.size 30 _ (0, 0) _ rfl (setRow_heap _ _ _ _ _ _ (heap_alloc_new w _)) Tryz.underlying30 rfl sizeZ) rfl ?_
  exact ⟨rfl, below_setRow (belowBox w _) (by omega) _⟩
theorem three0 (w : World) (cs ds : List Value) : Three w (((w.alloc (.cells cs.toArray 30)).alloc (.cells ds.toArray 30)).alloc (.cells zeroV 30)) cs ds := three_boxes w cs ds 0
end Go.Proofs.YtmjfggadehkbjaaGreatDoor

/- A value as a result (datakitref37.result): the value, or the error why it is none. -/
namespace Go.Proofs.YtmjfggadehkbjaaGreatDoor
open Go.RowKit

/-- What a value as a result is. -/
def resD (v : ValD) : ValD × Int := if chkD v = 0 then (v, 0) else (zeroD, chkD v)
def ResR (B N : Nat) (r : ValD × Int) (w : World) (e : Ending) (w' : World) : Prop := ∃ (cs : List Value), e = .returned (.tuple #[.agg cs.toArray, .int .i64 r.2]) ∧ Solid B w.heap.size w' (fun c => ValD.At c c.heap.size N r.1 cs) ∧ Below w.heap.size w w'
theorem res_zero {B N : Nat} {w w1 : World} {g : Nat} {k : Int} {r : ValD × Int} (hr : r = (zeroD, k)) (hg : w.heap.size ≤ g) (hb : Below w.heap.size w w1) : ResR B N r w (.returned (.tuple #[.agg zeroV, .int .i64 k])) (w1.setRow g zeroV) := by
  rw [hr]
  exact ⟨zeroV.toList, rfl, fun _ _ => zeroD_at _ _ _, below_setRow hb hg _⟩
set_option maxRecDepth 100000 in
set_option maxHeartbeats 3200000 in
theorem result_ref (v : ValD) (w : World) (B N : Nat) (cs : List Value) (hN : N ≤ 4294967296) (hB : B ≤ w.heap.size) (hv : ValD.At w B N v cs) :
    Calls Tryz.prog 50 #[.agg cs.toArray] w (ResR B N (resD v) w) := by
  have HV := Lib.hid hv
  have hlen := hv.len
  have hl := Lib.hid (show (Tryz.prog.info? 30).map (·.size) = some cs.length by rw [hv.len]; exact sizeV)
  have H0 := Lib.hid (belowThen (belowBox w (.cells cs.toArray 30)) (belowBox (w.alloc (.cells cs.toArray 30)) (.cells zeroV 30)))
  have HS := Lib.hid (show ((w.alloc (.cells cs.toArray 30)).alloc (.cells zeroV 30)).heap.size = w.heap.size + 1 + 1 by rw [World.size_alloc, World.size_alloc])
  have R0 := Lib.hid ((box_at w cs 30).then (belowBox (w.alloc (.cells cs.toArray 30)) (.cells zeroV 30)) (by rw [World.size_alloc]; omega))
  have Z0 := Lib.hid (show RowAt ((w.alloc (.cells cs.toArray 30)).alloc (.cells zeroV 30)) (w.heap.size + 1) zeroV.toList from by
    have h := heap_alloc_new (w.alloc (.cells cs.toArray 30)) (.cells zeroV 30)
    rw [World.size_alloc] at h
    exact h)
  obtain ⟨k, hk⟩ : ∃ k, chkD v = k := ⟨_, rfl⟩
  have HK := Lib.hid hk
  clear hv
  go_enter Tryz.func50, Tryz.ntmps50
  go_wp2_with ((with_reducible show wpList _ _ _ (⟨some 5, _, _, _, _, _⟩ :: _) _ _); refine wpList_load_mid rfl 30 _ rfl w.heap.size 0 rfl cs _ R0.out.range Tryz.underlying30 rfl hl.out ?_)
  refine (check07_exact v _ B N cs hN (Nat.le_trans hB H0.out.size) (HV.out.below (H0.out.mono hB))).mono ?_
  rintro e w1 ⟨rfl, hb1⟩
  have H1 := Lib.hid (belowThen H0.out hb1)
  have R1 := Lib.hid (R0.out.then hb1 (by rw [HS.out]; omega))
  have Z1 := Lib.hid (Z0.out.below hb1 (by rw [HS.out]; omega))
  have hs1 : w.heap.size + 1 + 1 ≤ w1.heap.size := by have := hb1.size; rw [HS.out] at this; omega
  clear hb1
  rw [hk]
  clear hk
  by_cases hk0 : k = 0
  · have HR := Lib.hid (show resD v = (v, 0) by unfold resD; rw [if_pos (by rw [HK.out]; exact hk0)])
    subst hk0
    go_wp2_with (first
      | ((with_reducible show wpList _ _ _ (⟨some 11, _, _, _, _, _⟩ :: _) _ _); refine wpList_load_mid rfl 30 _ rfl w.heap.size 0 rfl cs _ R1.out.range Tryz.underlying30 rfl hl.out ?_)
      | ((with_reducible show wpList _ _ _ (⟨none, .store 30 (.tmp 2) _, _, _, _, _⟩ :: _) _ _); refine wpList_store_row rfl 30 _ _ rfl (w.heap.size + 1) cs.toArray rfl rfl 30 zeroV Z1.out (row_size hlen) (row_zero hlen) (row_ones HV.out) ?_))
    refine bodyPost_ret (results_cell_row2 rfl _ _ (w.heap.size + 1) 30 _ (0, 0) _ rfl (setRow_heap _ _ _ _ _ _ Z1.out) Tryz.underlying30 rfl (row_size hlen)) rfl ?_
    rw [HR.out]
    have hb := below_setRow (g := w.heap.size + 1) H1.out (by omega) cs.toArray
    have hB2 := Nat.le_trans hB hb.size
    exact ⟨cs, rfl, fun c hc => ((HV.out.below (hb.mono hB)).below (hc.below hB2)).mono (Nat.le_trans hB2 hc.size), hb⟩
  · have HR := Lib.hid (show resD v = (zeroD, k) by unfold resD; rw [if_neg (by rw [HK.out]; exact hk0), HK.out])
    have hk1 : (k == 0) = false := by simpa using hk0
    have hk2 : (k != 0) = true := by simpa using hk0
    clear hk0
    go_wp2_with ((with_reducible show wpList _ _ _ (⟨none, .store 30 (.tmp 2) _, _, _, _, _⟩ :: _) _ _); refine wpList_store_row rfl 30 _ _ rfl (w.heap.size + 1) zeroV rfl rfl 30 zeroV Z1.out sizeZ rfl oneZ ?_)
    refine bodyPost_ret (results_cell_row2 rfl _ _ (w.heap.size + 1) 30 _ (0, 0) _ rfl (setRow_heap _ _ _ _ _ _ Z1.out) Tryz.underlying30 rfl sizeZ) rfl ?_
    exact res_zero HR.out (by omega) H1.out
end Go.Proofs.YtmjfggadehkbjaaGreatDoor

/- A value as a result (builtin.valid): a copy of the value, or the error why it is none. -/
namespace Go.Proofs.YtmjfggadehkbjaaGreatDoor
open Go.RowKit

set_option maxRecDepth 100000 in
set_option maxHeartbeats 3200000 in
theorem valid_prog (n : Nat) (v : ValD) (w : World) (B N : Nat) (cs : List Value) (hn : n ≤ 65536) (hf : fitsV n v) (hN : N ≤ 4294967296) (hB : B ≤ w.heap.size) (hv : ValD.At w B N v cs) :
    Calls Tryz.prog 48 #[.agg cs.toArray, .int .i64 0] w (ResR B N (resD v) w) := by
  have HV := Lib.hid hv
  have HFT := Lib.hid hf
  have hl := Lib.hid (show (Tryz.prog.info? 30).map (·.size) = some cs.length by rw [hv.len]; exact sizeV)
  have H0 := Lib.hid (belowThen (belowBox w (.cells cs.toArray 30)) (belowBox (w.alloc (.cells cs.toArray 30)) (.cells zeroV 30)))
  have HS := Lib.hid (show ((w.alloc (.cells cs.toArray 30)).alloc (.cells zeroV 30)).heap.size = w.heap.size + 1 + 1 by rw [World.size_alloc, World.size_alloc])
  have R0 := Lib.hid ((box_at w cs 30).then (belowBox (w.alloc (.cells cs.toArray 30)) (.cells zeroV 30)) (by rw [World.size_alloc]; omega))
  have Z0 := Lib.hid (show RowAt ((w.alloc (.cells cs.toArray 30)).alloc (.cells zeroV 30)) (w.heap.size + 1) zeroV.toList from by
    have h := heap_alloc_new (w.alloc (.cells cs.toArray 30)) (.cells zeroV 30)
    rw [World.size_alloc] at h
    exact h)
  obtain ⟨k, hk⟩ : ∃ k, chkD v = k := ⟨_, rfl⟩
  have HK := Lib.hid hk
  clear hv hf
  go_enter Tryz.func48, Tryz.ntmps48
  go_wp2_with ((with_reducible show wpList _ _ _ (⟨some 8, _, _, _, _, _⟩ :: _) _ _); refine wpList_load_mid rfl 30 _ rfl w.heap.size 0 rfl cs _ R0.out.range Tryz.underlying30 rfl hl.out ?_)
  refine (vcheck_exact v _ B N cs hN (Nat.le_trans hB H0.out.size) (HV.out.below (H0.out.mono hB))).mono ?_
  rintro e w1 ⟨rfl, hb1⟩
  have H1 := Lib.hid (belowThen H0.out hb1)
  have R1 := Lib.hid (R0.out.then hb1 (by rw [HS.out]; omega))
  have Z1 := Lib.hid (Z0.out.below hb1 (by rw [HS.out]; omega))
  have hs1 : w.heap.size + 1 + 1 ≤ w1.heap.size := by have := hb1.size; rw [HS.out] at this; omega
  clear hb1
  rw [hk]
  clear hk
  by_cases hk0 : k = 0
  · have HR := Lib.hid (show resD v = (v, 0) by unfold resD; rw [if_pos (by rw [HK.out]; exact hk0)])
    subst hk0
    go_wp2_with ((with_reducible show wpList _ _ _ (⟨some 14, _, _, _, _, _⟩ :: _) _ _); refine wpList_load_mid rfl 30 _ rfl w.heap.size 0 rfl cs _ R1.out.range Tryz.underlying30 rfl hl.out ?_)
    refine (copy_ex n v _ B N cs hn HFT.out hN (Nat.le_trans hB H1.out.size) (HV.out.below (H1.out.mono hB))).mono ?_
    rintro e w2 ⟨cs2, rfl, hsafe, hb2⟩
    have S2 := Lib.hid hsafe
    have A2 := Lib.hid hsafe.here
    have hlen := hsafe.here.len
    have H2 := Lib.hid (belowThen H1.out hb2)
    have Z2 := Lib.hid (Z1.out.below hb2 (by omega))
    have hs2 : w.heap.size + 1 + 1 ≤ w2.heap.size := Nat.le_trans hs1 hb2.size
    clear hsafe hb2
    go_wp2_with ((with_reducible show wpList _ _ _ (⟨none, .store 30 (.tmp 4) _, _, _, _, _⟩ :: _) _ _); refine wpList_store_row rfl 30 _ _ rfl (w.heap.size + 1) cs2.toArray rfl rfl 30 zeroV Z2.out (row_size hlen) (row_zero hlen) (row_ones A2.out) ?_)
    refine bodyPost_ret (results_cell_row2 rfl _ _ (w.heap.size + 1) 30 _ (0, 0) _ rfl (setRow_heap _ _ _ _ _ _ Z2.out) Tryz.underlying30 rfl (row_size hlen)) rfl ?_
    rw [HR.out]
    have S3 := (S2.out.next (no2 := none) (keep_setRow w2 (w.heap.size + 1) w1.heap.size cs2.toArray (by omega)) (fun q _ h => by cases h)).wide (L := w.heap.size) (by omega)
    exact ⟨cs2, rfl, fun c hc => S3 c hc.keep, below_setRow H2.out (by omega) _⟩
  · have HR := Lib.hid (show resD v = (zeroD, k) by unfold resD; rw [if_neg (by rw [HK.out]; exact hk0), HK.out])
    have hk1 : (k == 0) = false := by simpa using hk0
    have hk2 : (k != 0) = true := by simpa using hk0
    clear hk0
    go_wp2_with ((with_reducible show wpList _ _ _ (⟨none, .store 30 (.tmp 4) _, _, _, _, _⟩ :: _) _ _); refine wpList_store_row rfl 30 _ _ rfl (w.heap.size + 1) zeroV rfl rfl 30 zeroV Z1.out sizeZ rfl oneZ ?_)
    refine bodyPost_ret (results_cell_row2 rfl _ _ (w.heap.size + 1) 30 _ (0, 0) _ rfl (setRow_heap _ _ _ _ _ _ Z1.out) Tryz.underlying30 rfl sizeZ) rfl ?_
    exact res_zero HR.out (by omega) H1.out
end Go.Proofs.YtmjfggadehkbjaaGreatDoor

/- A list as a result (datakitref37.list, builtin.list). -/
namespace Go.Proofs.YtmjfggadehkbjaaGreatDoor
open Go.RowKit

def lisD (l : List ValD) : ValD := .mk 6 false ⟨false, ⟨#[]⟩, 0⟩ ⟨0, 0, 0, 0⟩ ⟨#[]⟩ [] l []
def lisR (l : List ValD) (a : Option Addr) (c : Nat) : List Value := [.int .i64 6, .bool false, .bool false, .string ⟨#[]⟩, .int .i64 0, .int .i64 0, .int .i64 0, .int .i64 0, .int .i64 0, .string ⟨#[]⟩, .slice none 0 0, .slice a l.length c, .slice none 0 0]
theorem lisD_at {w : World} {B N : Nat} {l : List ValD} {a : Option Addr} (c : Nat) (hl : l.length ≤ N) (h : ValsAt w B N l a) : ValD.At w B N (lisD l) (lisR l a c) :=
  ⟨none, a, none, 0, c, 0, rfl, ⟨⟨by show (-9223372036854775808 : Int) ≤ 6; omega, by show (6 : Int) ≤ _; omega⟩, i64_0, i64_0, i64_0, i64_0, i64_0, Nat.zero_le _, Nat.zero_le _, Nat.zero_le _, hl, Nat.zero_le _⟩, .inl rfl, h, trivial⟩
theorem Apart.after {B L L2 : Nat} {a b c : World} (h : Apart B L a b) (k : Apart B L2 b c) (hL : L2 ≤ L) : Apart B L a c :=
  ⟨k.os.trans h.os, k.tape.trans h.tape, k.output.trans h.output, Nat.le_trans h.size k.size, fun q hq hor => (k.block q (Nat.lt_of_lt_of_le hq h.size) (by omega)).trans (h.block q hq hor)⟩
set_option maxRecDepth 100000 in
set_option maxHeartbeats 1600000 in
theorem list_ref (l : List ValD) (a : Option Addr) (c : Nat) (w : World) (B N : Nat) (hN : N ≤ 4294967296) (hl : l.length ≤ N) (hB : B ≤ w.heap.size) (h : ValsAt w B N l a) :
    Calls Tryz.prog 73 #[.slice a l.length c] w (ResR B N (resD (lisD l)) w) := by
  have HA := Lib.hid (lisD_at c hl h)
  have H0 := Lib.hid (belowBox w (.cells zeroV 30))
  have Z0 := Lib.hid (show RowAt (w.alloc (.cells zeroV 30)) w.heap.size zeroV.toList from heap_alloc_new w (.cells zeroV 30))
  clear h
  go_enter Tryz.func73, Tryz.ntmps73
  go_wp2_with fail
  refine (result_ref (lisD l) _ B N (lisR l a c) hN (Nat.le_trans hB H0.out.size) (HA.out.below (H0.out.mono hB))).mono ?_
  rintro e w1 ⟨cs2, rfl, hsol, hb⟩
  obtain ⟨r, hr⟩ : ∃ r, resD (lisD l) = r := ⟨_, rfl⟩
  have HR := Lib.hid hr
  rw [hr] at hsol ⊢
  have hlen := hsol.here.len
  have AT := Lib.hid hsol.here
  have S1 := Lib.hid hsol
  have H1 := Lib.hid (belowThen H0.out hb)
  have Z1 := Lib.hid (Z0.out.below hb (by rw [World.size_alloc]; omega))
  clear hsol hb hr
  obtain ⟨rv, rk⟩ := r
  go_wp2_with ((with_reducible show wpList _ _ _ (⟨none, .store 30 (.tmp 2) _, _, _, _, _⟩ :: _) _ _); refine wpList_store_row rfl 30 _ _ rfl w.heap.size cs2.toArray rfl rfl 30 zeroV Z1.out (row_size hlen) (row_zero hlen) (row_ones AT.out) ?_)
  refine bodyPost_ret (results_cell_row2 rfl _ _ w.heap.size 30 _ (0, 0) _ rfl (setRow_heap _ _ _ _ _ _ Z1.out) Tryz.underlying30 rfl (row_size hlen)) rfl ?_
  rw [HR.out]
  refine ⟨cs2, rfl, fun d hd => S1.out d ?_, below_setRow H1.out (Nat.le_refl _) _⟩
  exact (Apart.of_setRow0 cs2.toArray hB (by rw [World.size_alloc]; omega)).after hd (by rw [World.size_alloc]; omega)
set_option maxRecDepth 100000 in
set_option maxHeartbeats 1600000 in
theorem list_prog (n : Nat) (hn : n + 1 ≤ 65536) (l : List ValD) (hf : ∀ x ∈ l, fitsV n x) (a : Option Addr) (c : Nat) (w : World) (B N : Nat) (hN : N ≤ 4294967296) (hl : l.length ≤ N) (hB : B ≤ w.heap.size) (h : ValsAt w B N l a) :
    Calls Tryz.prog 55 #[.slice a l.length c] w (ResR B N (resD (lisD l)) w) := by
  have HF := Lib.hid (show fitsV (n + 1) (lisD l) from ⟨hf, fun f hf => by cases hf⟩)
  have HA := Lib.hid (lisD_at c hl h)
  have H0 := Lib.hid (belowBox w (.cells zeroV 30))
  have Z0 := Lib.hid (show RowAt (w.alloc (.cells zeroV 30)) w.heap.size zeroV.toList from heap_alloc_new w (.cells zeroV 30))
  clear h hf
  go_enter Tryz.func55, Tryz.ntmps55
  go_wp2_with fail
  refine (valid_prog (n + 1) (lisD l) _ B N (lisR l a c) hn HF.out hN (Nat.le_trans hB H0.out.size) (HA.out.below (H0.out.mono hB))).mono ?_
  rintro e w1 ⟨cs2, rfl, hsol, hb⟩
  obtain ⟨r, hr⟩ : ∃ r, resD (lisD l) = r := ⟨_, rfl⟩
  have HR := Lib.hid hr
  rw [hr] at hsol ⊢
  have hlen := hsol.here.len
  have AT := Lib.hid hsol.here
  have S1 := Lib.hid hsol
  have H1 := Lib.hid (belowThen H0.out hb)
  have Z1 := Lib.hid (Z0.out.below hb (by rw [World.size_alloc]; omega))
  clear hsol hb hr
  obtain ⟨rv, rk⟩ := r
  go_wp2_with ((with_reducible show wpList _ _ _ (⟨none, .store 30 (.tmp 2) _, _, _, _, _⟩ :: _) _ _); refine wpList_store_row rfl 30 _ _ rfl w.heap.size cs2.toArray rfl rfl 30 zeroV Z1.out (row_size hlen) (row_zero hlen) (row_ones AT.out) ?_)
  refine bodyPost_ret (results_cell_row2 rfl _ _ w.heap.size 30 _ (0, 0) _ rfl (setRow_heap _ _ _ _ _ _ Z1.out) Tryz.underlying30 rfl (row_size hlen)) rfl ?_
  rw [HR.out]
  refine ⟨cs2, rfl, fun d hd => S1.out d ?_, below_setRow H1.out (Nat.le_refl _) _⟩
  exact (Apart.of_setRow0 cs2.toArray hB (by rw [World.size_alloc]; omega)).after hd (by rw [World.size_alloc]; omega)
end Go.Proofs.YtmjfggadehkbjaaGreatDoor

/- A text as a result (datakitref37.text, value.Text). -/
namespace Go.Proofs.YtmjfggadehkbjaaGreatDoor
open Go.RowKit

def textD (s : ByteArray) : ValD := .mk 4 false ⟨false, ⟨#[]⟩, 0⟩ ⟨0, 0, 0, 0⟩ s [] [] []
def textR (s : ByteArray) : List Value := [.int .i64 4, .bool false, .bool false, .string ⟨#[]⟩, .int .i64 0, .int .i64 0, .int .i64 0, .int .i64 0, .int .i64 0, .string s, .slice none 0 0, .slice none 0 0, .slice none 0 0]
theorem textD_at {w : World} {B N : Nat} {s : ByteArray} (hs : s.size ≤ N) : ValD.At w B N (textD s) (textR s) :=
  ⟨none, none, none, 0, 0, 0, rfl, ⟨⟨by show (-9223372036854775808 : Int) ≤ 4; omega, by show (4 : Int) ≤ _; omega⟩, i64_0, i64_0, i64_0, i64_0, i64_0, Nat.zero_le _, hs, Nat.zero_le _, Nat.zero_le _, Nat.zero_le _⟩, .inl rfl, trivial, trivial⟩
set_option maxRecDepth 100000 in
set_option maxHeartbeats 1600000 in
theorem text_ref (s : ByteArray) (w : World) (B N : Nat) (hN : N ≤ 4294967296) (hs : s.size ≤ N) (hB : B ≤ w.heap.size) :
    Calls Tryz.prog 72 #[.string s] w (ResR B N (resD (textD s)) w) := by
  have H0 := Lib.hid (belowBox w (.cells zeroV 30))
  have Z0 := Lib.hid (show RowAt (w.alloc (.cells zeroV 30)) w.heap.size zeroV.toList from heap_alloc_new w (.cells zeroV 30))
  go_enter Tryz.func72, Tryz.ntmps72
  go_wp2_with fail
  refine (result_ref (textD s) _ B N (textR s) hN (Nat.le_trans hB H0.out.size) (textD_at hs)).mono ?_
  rintro e w1 ⟨cs2, rfl, hsol, hb⟩
  obtain ⟨r, hr⟩ : ∃ r, resD (textD s) = r := ⟨_, rfl⟩
  have HR := Lib.hid hr
  rw [hr] at hsol ⊢
  have hlen := hsol.here.len
  have AT := Lib.hid hsol.here
  have S1 := Lib.hid hsol
  have H1 := Lib.hid (belowThen H0.out hb)
  have Z1 := Lib.hid (Z0.out.below hb (by rw [World.size_alloc]; omega))
  clear hsol hb hr
  obtain ⟨rv, rk⟩ := r
  go_wp2_with ((with_reducible show wpList _ _ _ (⟨none, .store 30 (.tmp 2) _, _, _, _, _⟩ :: _) _ _); refine wpList_store_row rfl 30 _ _ rfl w.heap.size cs2.toArray rfl rfl 30 zeroV Z1.out (row_size hlen) (row_zero hlen) (row_ones AT.out) ?_)
  refine bodyPost_ret (results_cell_row2 rfl _ _ w.heap.size 30 _ (0, 0) _ rfl (setRow_heap _ _ _ _ _ _ Z1.out) Tryz.underlying30 rfl (row_size hlen)) rfl ?_
  rw [HR.out]
  refine ⟨cs2, rfl, fun d hd => S1.out d ?_, below_setRow H1.out (Nat.le_refl _) _⟩
  exact (Apart.of_setRow0 cs2.toArray hB (by rw [World.size_alloc]; omega)).after hd (by rw [World.size_alloc]; omega)
theorem dec0_refl : decB ⟨false, ⟨#[]⟩, 0⟩ ⟨false, ⟨#[]⟩, 0⟩ = true := by simp [decB]
theorem time0_refl : timeB ⟨0, 0, 0, 0⟩ ⟨0, 0, 0, 0⟩ = true := by simp [timeB]
theorem resD_text {s : ByteArray} (hv : validS s = true) (hs : s.size ≤ 65536) : resD (textD s) = (textD s, 0) := by
  have ho : ownB (textD s) = true := (ownB_iff _).2 ⟨by show (0 : Int) ≤ 4; omega, by show (4 : Int) ≤ 7; omega, fun _ => rfl, fun _ => dec0_refl, fun _ => time0_refl, fun h => absurd rfl h, fun _ => rfl, fun _ => rfl, fun _ => rfl⟩
  have hd : vdecB (textD s).num = true := vdec_zero dec0_refl
  have hq : ¬ (vdecB (textD s).num = false ∨ ((textD s).kind = 3 ∧ vtimeB (textD s).time = false)) := by
    rw [hd]
    rintro (h | ⟨h, _⟩)
    · cases h
    · exact absurd h (by show ¬ (4 : Int) = 3; omega)
  have h1 : oneE (textD s) = 0 := by
    rw [oneE_k ho hq hv (by show ¬ (65536 < s.size ∨ 65536 < 0); omega)]
    rfl
  have h2 : chkD (textD s) = 0 := by
    unfold chkD
    rw [show lookD 48 (textD s) 0 = if (65536 : Int) ≤ 0 then (0, 10) else if oneE (textD s) = 0 then kidsL (lookD 47) (kidsD (textD s)) (0 + 1) else (0, oneE (textD s)) from rfl, if_neg (by omega), if_pos h1]
    rfl
  unfold resD
  rw [if_pos h2]
end Go.Proofs.YtmjfggadehkbjaaGreatDoor

/- value.Text: what it gives. -/
namespace Go.Proofs.YtmjfggadehkbjaaGreatDoor
open Go.RowKit

def TxtR (s : ByteArray) (w : World) (e : Ending) (w' : World) : Prop := e = .returned (.agg (textR s).toArray) ∧ Below w.heap.size w w'
set_option maxRecDepth 100000 in
set_option maxHeartbeats 1600000 in
theorem text_prog (s : ByteArray) (w : World) : Calls Tryz.prog 54 #[.string s] w (TxtR s w) := by
  have Z0 := Lib.hid (heap_alloc_new w (.cells (textR s).toArray 30))
  go_enter Tryz.func54, Tryz.ntmps54
  go_wp2_with fail
  refine bodyPost_ret (results_cell_row rfl _ _ w.heap.size 30 (textR s).toArray (0, 0) _ rfl Z0.out Tryz.underlying30 rfl (row_size rfl)) rfl ?_
  exact ⟨rfl, belowBox w _⟩
end Go.Proofs.YtmjfggadehkbjaaGreatDoor
