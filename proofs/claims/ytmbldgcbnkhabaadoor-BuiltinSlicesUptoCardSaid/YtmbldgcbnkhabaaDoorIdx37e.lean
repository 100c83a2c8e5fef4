/- datakitref37.Each: what it gives. -/
import Derived.Test.YtmbldgcbnkhabaaDoorIdx37b
namespace Go.Proofs.YtmbldgcbnkhabaaDoor
open Go.RowKit

/-- All parts of a value. -/
def partsV (v : ValD) : List ValD := v.list ++ v.fields.map (·.2)
def eachD (v : ValD) : List ValD × Int := if v.kind = 6 ∨ v.kind = 7 then (partsV v, 0) else ([], 6)
def EachR (N : Nat) (r : List ValD × Int) (w : World) (e : Ending) (w' : World) : Prop := ∃ (a : Option Addr) (c : Nat), e = .returned (.tuple #[.slice a r.1.length c, .int .i64 r.2]) ∧ ValsAt w' w'.heap.size N r.1 a ∧ Below w.heap.size w w'
theorem partsV_len (v : ValD) : (partsV v).length = v.list.length + v.fields.length := by simp [partsV]
theorem partsV_list {v : ValD} {j : Nat} (h : j < v.list.length) (h2 : j < (partsV v).length) : (partsV v)[j] = v.list[j] := by
  have : (partsV v)[j]? = some v.list[j] := by
    unfold partsV
    rw [List.getElem?_append_left h, List.getElem?_eq_getElem h]
  rw [List.getElem?_eq_getElem h2] at this
  exact Option.some.inj this
theorem partsV_field {v : ValD} {j : Nat} (h : j < v.fields.length) (h2 : v.list.length + j < (partsV v).length) : (partsV v)[v.list.length + j] = v.fields[j].2 := by
  have : (partsV v)[v.list.length + j]? = some v.fields[j].2 := by
    unfold partsV
    rw [List.getElem?_append_right (by omega), Nat.add_sub_cancel_left, List.getElem?_map, List.getElem?_eq_getElem h]
    rfl
  rw [List.getElem?_eq_getElem h2] at this
  exact Option.some.inj this
/-- The cells of values that lie one after the other. -/
theorem rows_of {w : World} {B N b o : Nat} {l : List ValD} (h : ∀ i (hi : i < l.length), ∃ cs, CellsAt w b (o + i * 13) cs ∧ ValD.At w B N l[i] cs) :
    ∃ ns : List Value, ns.length = l.length * 13 ∧ (∀ j u, ns[j]? = some u → w.cell? ⟨b, o + j, none⟩ = some u) ∧ (∀ u ∈ ns, u.oneCell' = true) ∧ ∀ i (hi : i < l.length), ValD.At w B N l[i] ((ns.drop (i * 13)).take 13) := by
  induction l generalizing o with
  | nil => exact ⟨[], rfl, by simp, by simp, by simp⟩
  | cons v r ih =>
    obtain ⟨cs, h1, h2⟩ := h 0 (by simp)
    obtain ⟨ns, n1, n2, n3, n4⟩ := ih (o := o + 13) (fun i hi => by
      obtain ⟨cs, g1, g2⟩ := h (i + 1) (by simpa using hi)
      exact ⟨cs, by rw [show o + 13 + i * 13 = o + (i + 1) * 13 by omega]; exact g1, g2⟩)
    have hl := h2.len
    refine ⟨cs ++ ns, by rw [List.length_append, hl, n1, List.length_cons]; omega, fun j u hu => ?_, fun u hu => ?_, fun i hi => ?_⟩
    · by_cases hj : j < 13
      · rw [List.getElem?_append_left (by omega)] at hu
        have := h1 j (by omega)
        rw [show o + 0 * 13 + j = o + j by omega] at this
        rw [this]; exact hu
      · rw [List.getElem?_append_right (by omega), hl] at hu
        have := n2 _ _ hu
        rw [show o + 13 + (j - 13) = o + j by omega] at this
        exact this
    · rcases List.mem_append.1 hu with hu | hu
      · exact h2.oneCell u hu
      · exact n3 u hu
    · match i with
      | 0 => simp only [Nat.zero_mul, List.drop_zero]; rw [List.take_append_of_le_length (by omega), List.take_of_length_le (by omega)]; exact h2
      | i + 1 =>
        rw [show (i + 1) * 13 = cs.length + i * 13 by omega, ← List.drop_drop, List.drop_left]
        exact n4 i (by simpa using hi)

theorem list_rows {w : World} {B N : Nat} {l : List ValD} {la : Option Addr} (h : ValsAt w B N l la) :
    (l = [] ∧ la = none) ∨ ∃ ad : Addr, la = some ad ∧ ∃ ns : List Value, ns.length = l.length * 13 ∧ (∀ w' : World, Below B w w' → ∀ j u, ns[j]? = some u → w'.cell? (ad.add j) = some u) ∧ (∀ u ∈ ns, u.oneCell' = true) ∧ ∀ i (hi : i < l.length), ValD.At w B N l[i] ((ns.drop (i * 13)).take 13) := by
  by_cases hn : l = []
  · subst hn
    cases la with
    | none => exact .inl ⟨rfl, rfl⟩
    | some ad => exact .inr ⟨ad, rfl, [], rfl, by simp, by simp, by simp⟩
  · obtain ⟨b, o, rfl, hb, hget⟩ := h.get hn
    obtain ⟨ns, n1, n2, n3, n4⟩ := rows_of hget
    exact .inr ⟨⟨b, o, none⟩, rfl, ns, n1, fun w' hw j u hu => by rw [addr_add', hw.cell (p := ⟨b, o + j, none⟩) hb]; exact n2 j u hu, n3, n4⟩

/-- What the row of parts holds so far. -/
def PartsAt (w : World) (B N : Nat) (l : List ValD) (n : Nat) (xs : List Value) : Prop := ∀ j (hj : j < l.length), j < n → ValD.At w B N l[j] ((xs.drop (j * 13)).take 13)
theorem PartsAt.snoc {w : World} {B N : Nat} {l : List ValD} {n : Nat} {xs cs : List Value} (h : PartsAt w B N l n xs) (hx : xs.length = n * 13) (hn : n < l.length) (hc : ValD.At w B N l[n] cs) : PartsAt w B N l (n + 1) (xs ++ cs) := fun j hj hjk => by
  rw [drop_take_append hx hc.len hjk]
  split
  · exact h j hj ‹_›
  · obtain rfl : j = n := by omega
    exact hc

theorem run_append_nil {P : Program} (w : World) (base : Nat) (t ty e : TypeId) (i : TypeInfo) (size : Nat) (ht : P.underlying t = some (.slice e)) (hi : P.info? e = some i)
    (v : Value) (n : Nat) (xs : List Value) (hown : w.ownsRow base e size v n xs) (c : Nat) : (Builtin.append_ #[t, t] ty #[v, .slice none 0 c]).run P w = .ok v w := by
  rcases hown.2 with ⟨rfl, rfl⟩ | ⟨g, cap, cur, rfl, _, _, hnc, _⟩
  · simp [Builtin.append_, run_underlying ht, sizeOf, typeInfo, hi, Builtin.lenOf, Builtin.firstCells]
  · simp [Builtin.append_, run_underlying ht, sizeOf, typeInfo, hi, Builtin.lenOf, Builtin.firstCells, hnc, storeCells]
theorem wpList_append_nil {P : Program} {w : World} {ops : Array Oper} {rest : List Oper} {o : Oper} {a : Act} {Q : Exit → Act → World → Prop} (hgd : o.guard = none) (s x : Operand) (t : TypeId)
    (ho : o.op = .call { callee := .builtin .append, args := #[s, x], argTypes := #[t, t] })
    (base : Nat) (e : TypeId) (i : TypeInfo) (size : Nat) (ht : P.underlying t = some (.slice e)) (hi : P.info? e = some i)
    (v : Value) (n : Nat) (xs : List Value) (hs : a.eval s = v) (hown : w.ownsRow base e size v n xs) (c : Nat) (hx : a.eval x = .slice none 0 c)
    (h : wpList P ops Q rest (a.put o.dst v) w) : wpList P ops Q (o :: rest) a w := by
  refine wpList_plain hgd fun K hK => ?_
  have hrun := run_append_nil (P := P) w base t o.type e i size ht hi v n xs hown c
  unfold Oper.wp
  simp [execOp, ho, resolve, invoke, builtin, hs, hx, hrun, Result.andThen]
  exact hK _ _ h

set_option maxRecDepth 100000 in
set_option maxHeartbeats 3200000 in
theorem each_ref (v : ValD) (w : World) (N : Nat) (cs : List Value) (hN : N ≤ 4294967296) (hv : ValD.At w w.heap.size N v cs) :
    Calls Tryd.prog 9 #[.agg cs.toArray] w (EachR N (eachD v) w) := by
  obtain ⟨z0, hz0s, hinfo⟩ := infoV
  obtain ⟨i0, hi, hz0, hz1, hz2⟩ := info_parts hinfo
  have HI := Lib.hid hi
  have HZ0 := Lib.hid hz0
  have HZ1 := Lib.hid hz1
  have HZ2 := Lib.hid hz2
  have HZS := Lib.hid hz0s
  clear hi hz0 hz1 hz2 hz0s hinfo
  obtain ⟨ya, la, va, yc, lc, vc, hh⟩ := hv.has
  have hll : v.list.length ≤ N := hh.own.2.2.2.2.2.2.2.2.2.1
  have hfl : v.fields.length ≤ N := hh.own.2.2.2.2.2.2.2.2.2.2
  have HH := Lib.hid hh
  have q0 := hh.kind
  have q11 := hh.list
  have q12 := hh.fields
  clear hv hh
  by_cases hk : v.kind = 6 ∨ v.kind = 7
  · have HR := Lib.hid (show eachD v = (partsV v, 0) by unfold eachD; rw [if_pos hk])
    have hpl := partsV_len v
    have HB0 := Lib.hid (show Below w.heap.size w ((w.alloc (.cells cs.toArray 30)).alloc (.cells #[] 30)) from belowThen (belowBox w _) (belowBox _ _))
    have hs0 : ((w.alloc (.cells cs.toArray 30)).alloc (.cells #[] 30)).heap.size = w.heap.size + 2 := by rw [World.size_alloc, World.size_alloc]
    have RC := Lib.hid (show CellsAt ((w.alloc (.cells cs.toArray 30)).alloc (.cells #[] 30)) w.heap.size 0 cs from (box_at w cs 30).then (belowBox _ _) (by rw [World.size_alloc]; omega))
    have HO0 := Lib.hid (show ((w.alloc (.cells cs.toArray 30)).alloc (.cells #[] 30)).ownsRow (w.heap.size + 1) 30 13 (.slice (some ⟨w.heap.size + 1, 0, none⟩) 0 0) 0 [] from by
      have := World.ownsRow_made (w.alloc (.cells cs.toArray 30)) (e := 30) (size := 13) #[] 0 (Nat.le_refl _) (Nat.zero_le _) rfl
      rw [World.size_alloc] at this
      simpa using this)
    have START : (la = none ∧ v.list.length = 0) ∨ ∃ ad : Addr, la = some ad ∧ ∃ ns : List Value, ns.length = v.list.length * 13 ∧ (∀ w' : World, Below w.heap.size w w' → ∀ j u, ns[j]? = some u → w'.cell? (ad.add j) = some u) ∧ (∀ u ∈ ns, u.oneCell' = true) ∧ PartsAt w w.heap.size N (partsV v) v.list.length ns := by
      rcases list_rows HH.out.atList with ⟨h1, h2⟩ | ⟨ad, h1, ns, h2, h3, h4, h5⟩
      · exact .inl ⟨h2, by rw [h1]; rfl⟩
      · exact .inr ⟨ad, h1, ns, h2, h3, h4, fun j hj hjk => by rw [partsV_list hjk hj]; exact h5 j hjk⟩
    have FIN : ∀ s : Value, ∀ wr : World, ∀ xs : List Value, wr.ownsRow (w.heap.size + 1) 30 13 s (v.list.length + v.fields.length) xs → PartsAt w w.heap.size N (partsV v) (v.list.length + v.fields.length) xs → Below w.heap.size w wr → ∃ a c, s = .slice a (partsV v).length c ∧ ValsAt wr wr.heap.size N (partsV v) a := fun s wr xs ho hp hb =>
      valsAt_own ho hpl (Nat.le_refl _) (fun i hi => ((hp i hi (by omega)).below hb).mono hb.size)
    have HF := Lib.hid FIN
    clear FIN
    have K7 := Lib.hid hk
    rcases START with ⟨rfl, hL0⟩ | ⟨ad, rfl, ns, n1, n2, n3, n4⟩
    · have HL0 := Lib.hid hL0
      have z11 : cs[11]? = some (.slice none 0 lc) := by rw [q11, hL0]
      clear hL0 q11
      rcases hk with hk | hk
      all_goals
        rw [hk] at q0
        clear hk
        go_enter Tryd.func9, Tryd.ntmps9
        go_wp2_with ((with_reducible show wpList _ _ _ (⟨some 17, _, _, _, _, _⟩ :: _) _ _); refine wpList_append_nil rfl _ _ 27 rfl (w.heap.size + 1) 30 i0 13 Tryd.underlying27 HI.out _ _ _ rfl HO0.out lc rfl ?_)
        go_wp2_with fail
        go_simp
        go_loopw [4, 5] (fun s i wr => ∃ (k : Nat) (xs : List Value), k ≤ v.fields.length ∧ i = .int .i64 k ∧ wr.ownsRow (w.heap.size + 1) 30 13 s (v.list.length + k) xs ∧ Hid (PartsAt w w.heap.size N (partsV v) (v.list.length + k) xs) ∧
            Hid (CellsAt wr w.heap.size 0 cs) ∧ Hid (Below w.heap.size w wr) ∧ w.heap.size + 2 ≤ wr.heap.size) (fun _ i _ => v.fields.length - (intOf i).toNat)
        case atStart =>
          have e : v.list.length + 0 = 0 := by have := HL0.out; omega
          exact ⟨0, [], by omega, rfl, by rw [e]; exact HO0.out, Lib.hid (fun j _ hj => by have := HL0.out; omega), RC, HB0, by simp⟩
        case round =>
          clear HO0 HB0 RC hs0
          obtain ⟨w2, rfl⟩ : ∃ w2, w2 = wr := ⟨wr, rfl⟩
          obtain ⟨k, xs, hk, rfl, hown, HP, RC, HB, hs⟩ := hrel
          have HO := Lib.hid hown
          clear hown
          have c12 := RC.out.get0 q12
          by_cases hlt : k < v.fields.length
          · obtain ⟨b, o, rfl, hb, hget⟩ := HH.out.atFields.get (by intro h; simp [h] at hlt)
            obtain ⟨cs1, _, h1, h2⟩ := hget k hlt
            have HR1 := Lib.hid (h1.tail.below HB.out hb).range
            have hl := Lib.hid (show (Tryd.prog.info? 30).map (·.size) = some cs1.length by rw [h2.len]; exact sizeV)
            have HV1 := Lib.hid h2
            have hlen1 := h2.len
            have hfz := fold_zip0 cs1 #[.int .i64 0, .bool false, .bool false, .string ⟨#[]⟩, .int .i64 0, .int .i64 0, .int .i64 0, .int .i64 0, .int .i64 0, .string ⟨#[]⟩, .slice none 0 0, .slice none 0 0, .slice none 0 0] h2.len.symm
            clear h1 h2 hget
            go_wp2_with (first
              | ((with_reducible show wpList _ _ _ (⟨some 31, _, _, _, _, _⟩ :: _) _ _); refine wpList_load_mid rfl 30 _ rfl b (o + k * 14 + 1) rfl cs1 _ HR1.out Tryd.underlying30 rfl hl.out ?_)
              | ((with_reducible show wpList _ _ _ (⟨some 33, _, _, _, _, _⟩ :: _) _ _); refine wpList_append_own _ rfl _ _ 27 rfl (w.heap.size + 1) 30 i0 (.agg z0) 13 168 Tryd.underlying27 HI.out HZ0.out HZ1.out HZ2.out HZS.out (by decide) _ _ _ rfl (HO.out.alloc _) ⟨w2.heap.size, 0, none⟩ 1 1 cs1 rfl HV1.out.len ?c1 ?c2 ?c3 ?c4 ?c5 ?_))
            case c1 =>
              intro j u hj
              rw [addr_add', World.cell?_alloc_new]
              simpa using hj
            case c2 => exact HV1.out.oneCell
            case c3 => unfold maxLen; omega
            case c4 => omega
            case c5 => rw [World.size_alloc]; omega
            intro v2 w3 hown3 hgrow _
            have HO3 := Lib.hid hown3
            have HB3 : Hid (Below w.heap.size w w3) := (HB.out.alloc HB.out.size _).grown hgrow (by rw [World.size_alloc]; omega) (fun q hq => by have := (HO.out.lt q hq).1; omega)
            have RC3 := Lib.hid (show CellsAt w3 w.heap.size 0 cs from fun j hj => by
              refine (hgrow.cell_far ⟨w.heap.size, 0 + j, none⟩ (by rw [World.size_alloc]; show w.heap.size < _; omega) (fun e => by have := (HO.out.lt w.heap.size e.symm).1; omega)).trans ?_
              rw [World.cell?_alloc_lt _ _ _ (by show w.heap.size < _; omega)]
              exact RC.out j hj)
            have hs3 : w.heap.size + 2 ≤ w3.heap.size := by have := hgrow.size; rw [World.size_alloc] at this; omega
            clear hgrow hown3
            go_wp2
            go_roundw
            case rel =>
              refine ⟨k + 1, xs ++ cs1, by omega, by go_num, HO3.out, ?_, RC3, HB3, hs3⟩
              exact Lib.hid (HP.out.snoc HO.out.1 (by omega) (by rw [partsV_field hlt]; exact HV1.out))
            case measure => simp [intOf]; omega
          · obtain rfl : k = v.fields.length := by omega
            have HE := Lib.hid (HF.out _ _ _ HO.out HP.out HB.out)
            go_wp2_with fail
            go_ret2
            obtain ⟨a, c, e1, e2⟩ := HE.out
            rw [HR.out]
            exact ⟨a, c, by rw [← e1]; rfl, e2, HB.out⟩
    · have N2 := Lib.hid n2
      have N3 := Lib.hid n3
      have N4 := Lib.hid n4
      clear n2 n3 n4
      rcases hk with hk | hk
      all_goals
        rw [hk] at q0
        clear hk
        go_enter Tryd.func9, Tryd.ntmps9
        go_wp2_with ((with_reducible show wpList _ _ _ (⟨some 17, _, _, _, _, _⟩ :: _) _ _); refine wpList_append_own _ rfl _ _ 27 rfl (w.heap.size + 1) 30 i0 (.agg z0) 13 168 Tryd.underlying27 HI.out HZ0.out HZ1.out HZ2.out HZS.out (by decide) _ _ _ rfl HO0.out ad v.list.length lc ns rfl n1 ?qc1 ?qc2 ?qc3 ?qc4 ?qc5 ?_)
        case qc1 => exact N2.out _ HB0.out
        case qc2 => exact N3.out
        case qc3 => unfold maxLen; omega
        case qc4 => omega
        case qc5 => simp
        intro v' w1 hown1 hgrow _
        have HO1 := Lib.hid hown1
        have HB1 := Lib.hid (show Below w.heap.size w w1 from HB0.out.grown hgrow (by omega) (fun q hq => by simp [Value.ownBlock] at hq; omega))
        have RC1 := Lib.hid (show CellsAt w1 w.heap.size 0 cs from fun j hj => (hgrow.cell_far ⟨w.heap.size, 0 + j, none⟩ (by show w.heap.size < _; omega) (by simp [Value.ownBlock])).trans (RC.out j hj))
        have hs1 : w.heap.size + 2 ≤ w1.heap.size := by have := hgrow.size; omega
        clear hown1 hgrow
        go_wp2_with fail
        go_simp
        go_loopw [4, 5] (fun s i wr => ∃ (k : Nat) (xs : List Value), k ≤ v.fields.length ∧ i = .int .i64 k ∧ wr.ownsRow (w.heap.size + 1) 30 13 s (v.list.length + k) xs ∧ Hid (PartsAt w w.heap.size N (partsV v) (v.list.length + k) xs) ∧
            Hid (CellsAt wr w.heap.size 0 cs) ∧ Hid (Below w.heap.size w wr) ∧ w.heap.size + 2 ≤ wr.heap.size) (fun _ i _ => v.fields.length - (intOf i).toNat)
        case atStart => exact ⟨0, ns, by omega, rfl, by simpa using HO1.out, N4, RC1, HB1, hs1⟩
        case round =>
          clear RC1 HB1 HO1 hs1 HO0 HB0 RC hs0
          obtain ⟨w2, rfl⟩ : ∃ w2, w2 = wr := ⟨wr, rfl⟩
          obtain ⟨k, xs, hk, rfl, hown, HP, RC, HB, hs⟩ := hrel
          have HO := Lib.hid hown
          clear hown
          have c12 := RC.out.get0 q12
          by_cases hlt : k < v.fields.length
          · obtain ⟨b, o, rfl, hb, hget⟩ := HH.out.atFields.get (by intro h; simp [h] at hlt)
            obtain ⟨cs1, _, h1, h2⟩ := hget k hlt
            have HR1 := Lib.hid (h1.tail.below HB.out hb).range
            have hl := Lib.hid (show (Tryd.prog.info? 30).map (·.size) = some cs1.length by rw [h2.len]; exact sizeV)
            have HV1 := Lib.hid h2
            have hlen1 := h2.len
            have hfz := fold_zip0 cs1 #[.int .i64 0, .bool false, .bool false, .string ⟨#[]⟩, .int .i64 0, .int .i64 0, .int .i64 0, .int .i64 0, .int .i64 0, .string ⟨#[]⟩, .slice none 0 0, .slice none 0 0, .slice none 0 0] h2.len.symm
            clear h1 h2 hget
            go_wp2_with (first
              | ((with_reducible show wpList _ _ _ (⟨some 31, _, _, _, _, _⟩ :: _) _ _); refine wpList_load_mid rfl 30 _ rfl b (o + k * 14 + 1) rfl cs1 _ HR1.out Tryd.underlying30 rfl hl.out ?_)
              | ((with_reducible show wpList _ _ _ (⟨some 33, _, _, _, _, _⟩ :: _) _ _); refine wpList_append_own _ rfl _ _ 27 rfl (w.heap.size + 1) 30 i0 (.agg z0) 13 168 Tryd.underlying27 HI.out HZ0.out HZ1.out HZ2.out HZS.out (by decide) _ _ _ rfl (HO.out.alloc _) ⟨w2.heap.size, 0, none⟩ 1 1 cs1 rfl HV1.out.len ?c1 ?c2 ?c3 ?c4 ?c5 ?_))
            case c1 =>
              intro j u hj
              rw [addr_add', World.cell?_alloc_new]
              simpa using hj
            case c2 => exact HV1.out.oneCell
            case c3 => unfold maxLen; omega
            case c4 => omega
            case c5 => rw [World.size_alloc]; omega
            intro v2 w3 hown3 hgrow _
            have HO3 := Lib.hid hown3
            have HB3 : Hid (Below w.heap.size w w3) := (HB.out.alloc HB.out.size _).grown hgrow (by rw [World.size_alloc]; omega) (fun q hq => by have := (HO.out.lt q hq).1; omega)
            have RC3 := Lib.hid (show CellsAt w3 w.heap.size 0 cs from fun j hj => by
              refine (hgrow.cell_far ⟨w.heap.size, 0 + j, none⟩ (by rw [World.size_alloc]; show w.heap.size < _; omega) (fun e => by have := (HO.out.lt w.heap.size e.symm).1; omega)).trans ?_
              rw [World.cell?_alloc_lt _ _ _ (by show w.heap.size < _; omega)]
              exact RC.out j hj)
            have hs3 : w.heap.size + 2 ≤ w3.heap.size := by have := hgrow.size; rw [World.size_alloc] at this; omega
            clear hgrow hown3
            go_wp2
            go_roundw
            case rel =>
              refine ⟨k + 1, xs ++ cs1, by omega, by go_num, HO3.out, ?_, RC3, HB3, hs3⟩
              exact Lib.hid (HP.out.snoc HO.out.1 (by omega) (by rw [partsV_field hlt]; exact HV1.out))
            case measure => simp [intOf]; omega
          · obtain rfl : k = v.fields.length := by omega
            have HE := Lib.hid (HF.out _ _ _ HO.out HP.out HB.out)
            go_wp2_with fail
            go_ret2
            obtain ⟨a, c, e1, e2⟩ := HE.out
            rw [HR.out]
            exact ⟨a, c, by rw [← e1]; rfl, e2, HB.out⟩
  · have HR := Lib.hid (show eachD v = ([], 6) by unfold eachD; rw [if_neg hk])
    have k1 : (v.kind != 6) = true := by simp; omega
    have k2 : (v.kind != 7) = true := by simp; omega
    clear hk
    go_enter Tryd.func9, Tryd.ntmps9
    go_wp2_with fail
    go_ret2
    rw [HR.out]
    exact ⟨none, 0, rfl, trivial, belowBox w _⟩
end Go.Proofs.YtmbldgcbnkhabaaDoor
