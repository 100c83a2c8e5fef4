/- builtin.Each: what it gives: the same as datakitref37.Each. -/
import Derived.Test.YtmbldgcbnkhabaaDoorIdx37e
namespace Go.Proofs.YtmbldgcbnkhabaaDoor
open Go.RowKit

/-- What the row of copies holds so far. -/
def SafeParts (L N : Nat) (l : List ValD) (n : Nat) (s : Value) (w : World) (xs : List Value) : Prop := ∀ j (hj : j < l.length), j < n → Safe L s.ownBlock w (fun c => ValD.At c c.heap.size N l[j] ((xs.drop (j * 13)).take 13))
theorem SafeParts.snoc {L N : Nat} {l : List ValD} {n : Nat} {s s2 : Value} {w w2 : World} {xs cs : List Value} {L2 : Nat} {v : ValD} (h : SafeParts L N l n s w xs) (hx : xs.length = n * 13) (hlen : cs.length = 13) (hn : n < l.length) (hv : l[n] = v)
    (hk : ∀ T : World → Prop, Safe L s.ownBlock w T → Safe L s2.ownBlock w2 T) (hc : Safe L2 s2.ownBlock w2 (fun c => ValD.At c c.heap.size N v cs)) (hL : L ≤ L2) : SafeParts L N l (n + 1) s2 w2 (xs ++ cs) := fun j hj hjk => by
  rw [drop_take_append hx hlen hjk]
  split
  · exact hk _ (h j hj ‹_›)
  · obtain rfl : j = n := by omega
    rw [hv]
    exact hc.wide hL

set_option maxRecDepth 100000 in
set_option maxHeartbeats 3200000 in
theorem each_prog (v : ValD) (w : World) (N : Nat) (cs : List Value) (hN : N ≤ 4294967296) (hf : fitsV 60 v) (hv : ValD.At w w.heap.size N v cs) :
    Calls Tryd.prog 8 #[.agg cs.toArray] w (EachR N (eachD v) w) := by
  obtain ⟨z0, hz0s, hinfo⟩ := infoV
  obtain ⟨i0, hi, hz0, hz1, hz2⟩ := info_parts hinfo
  have HI := Lib.hid hi
  have HZ0 := Lib.hid hz0
  have HZ1 := Lib.hid hz1
  have HZ2 := Lib.hid hz2
  have HZS := Lib.hid hz0s
  clear hi hz0 hz1 hz2 hz0s hinfo
  obtain ⟨ya, la, va, yc, lc, vc, hh⟩ := hv.has
  have hll : v.list.length ≤ N := hh.own.2.2.2.2.2.2.2.2.2.1
  have hfl : v.fields.length ≤ N := hh.own.2.2.2.2.2.2.2.2.2.2
  have HH := Lib.hid hh
  have HF := Lib.hid hf
  have q0 := hh.kind
  have q11 := hh.list
  have q12 := hh.fields
  have HV := Lib.hid hv
  clear hv hh hf
  by_cases hk : v.kind = 6 ∨ v.kind = 7
  · have HR := Lib.hid (show eachD v = (partsV v, 0) by unfold eachD; rw [if_pos hk])
    have hpl := partsV_len v
    have HB0 := Lib.hid (show Below w.heap.size w (w.alloc (.cells cs.toArray 30)) from belowBox w _)
    have RC := Lib.hid (show CellsAt (w.alloc (.cells cs.toArray 30)) w.heap.size 0 cs from box_at w cs 30)
    rcases hk with hk | hk
    all_goals
      rw [hk] at q0
      clear hk
      go_enter Tryd.func8, Tryd.ntmps8
      go_wp2_with fail
      go_simp
      go_loopw [4, 20] (fun s i wr => ∃ (k : Nat) (xs : List Value), k ≤ v.list.length ∧ i = .int .i64 k ∧ wr.ownsRow (w.heap.size + 1) 30 13 s k xs ∧ Hid (SafeParts (w.heap.size + 1) N (partsV v) k s wr xs) ∧
          Hid (CellsAt wr w.heap.size 0 cs) ∧ Hid (Below w.heap.size w wr) ∧ w.heap.size + 1 ≤ wr.heap.size) (fun _ i _ => v.list.length - (intOf i).toNat)
      case atStart => exact ⟨0, [], by omega, rfl, World.ownsRow_nil _ _ _ _, Lib.hid (fun j _ hj => absurd hj (by omega)), RC, HB0, by simp⟩
      case round =>
        clear RC HB0
        obtain ⟨w2, rfl⟩ : ∃ w2, w2 = wr := ⟨wr, rfl⟩
        obtain ⟨k, xs, hk, rfl, hown, HP, RC, HB, hs⟩ := hrel
        have HO := Lib.hid hown
        clear hown
        have c11 := RC.out.get0 q11
        have c12 := RC.out.get0 q12
        by_cases hlt : k < v.list.length
        · obtain ⟨b, o, rfl, hb, hget⟩ := HH.out.atList.get (by intro h; simp [h] at hlt)
          obtain ⟨cs1, h1, h2⟩ := hget k hlt
          have HR1 := Lib.hid (h1.below HB.out hb).range
          have H5 := Lib.hid (show ValD.At (w2.alloc (.cells cs1.toArray 30)) w.heap.size N v.list[k] cs1 from h2.below (belowThen HB.out (belowBox w2 _)))
          have HB5 := Lib.hid (show w.heap.size ≤ (w2.alloc (.cells cs1.toArray 30)).heap.size by rw [World.size_alloc]; omega)
          have hl1 := Lib.hid (show (Tryd.prog.info? 30).map (·.size) = some cs1.length by rw [h2.len]; exact sizeV)
          have hlen1 := h2.len
          have hone := Lib.hid (row_ones h2)
          have HFC := Lib.hid (HF.out.1 v.list[k] (List.getElem_mem hlt))
          clear h1 h2 hget
          go_wp2_with (first
            | ((with_reducible show wpList _ _ _ (⟨some 23, _, _, _, _, _⟩ :: _) _ _); refine wpList_load_mid rfl 30 _ rfl b (o + k * 13) rfl cs1 _ HR1.out Tryd.underlying30 rfl hl1.out ?_)
            | ((with_reducible show wpList _ _ _ (⟨none, .store 30 (.tmp 6) _, _, _, _, _⟩ :: _) _ _); refine wpList_store_new rfl 30 _ _ rfl zeroV cs1.toArray rfl rfl (row_size hlen1) (row_zero hlen1) hone.out ?_)
            | ((with_reducible show wpList _ _ _ (⟨some 25, _, _, _, _, _⟩ :: _) _ _); refine wpList_load_mid rfl 30 _ rfl w2.heap.size 0 rfl cs1 _ (box_at w2 cs1 30).range Tryd.underlying30 rfl hl1.out ?_))
          refine (copy_ex 59 _ _ w.heap.size N cs1 (by omega) HFC.out hN HB5.out H5.out).mono ?_
          rintro e w5 ⟨cs2, rfl, hsafe, hb5⟩
          have HS := Lib.hid hsafe
          have H6 := Lib.hid hb5
          have hlen2 := hsafe.here.len
          have hfz := fold_zip0 cs2 #[.int .i64 0, .bool false, .bool false, .string ⟨#[]⟩, .int .i64 0, .int .i64 0, .int .i64 0, .int .i64 0, .int .i64 0, .string ⟨#[]⟩, .slice none 0 0, .slice none 0 0, .slice none 0 0] hsafe.here.len.symm
          have HO5 := Lib.hid (own_below' HO.out (belowThen (belowBox w2 _) hb5))
          have hs5 : w.heap.size + 1 ≤ w5.heap.size := by have := hb5.size; rw [World.size_alloc] at this; omega
          clear hsafe hb5
          go_wp2_with ((with_reducible show wpList _ _ _ (⟨some 28, _, _, _, _, _⟩ :: _) _ _); refine wpList_append_lies _ rfl _ _ 27 rfl (w.heap.size + 1) 30 i0 (.agg z0) 13 168 Tryd.underlying27 HI.out HZ0.out HZ1.out HZ2.out HZS.out (by decide) _ _ _ rfl (HO5.out.alloc _) ⟨w5.heap.size, 0, none⟩ 1 1 cs2 rfl HS.out.here.len ?c1 ?c2 (by decide) ?c3 ?c4 ?c5 _ rfl ?_)
          case c1 =>
            intro j u hj
            rw [addr_add', World.cell?_alloc_new]
            simpa using hj
          case c2 => exact HS.out.here.oneCell
          case c3 => unfold maxLen; omega
          case c4 => omega
          case c5 => rw [World.size_alloc]; omega
          intro g cap w6 hown6 hgrow6 hlie6 hlt6
          have hf := step_facts (L := w.heap.size + 1) hs (fun q hq => HO.out.lt q hq) H6.out hgrow6 (by rw [World.size_alloc]; exact hlie6)
          have HO6 := Lib.hid hown6
          have hs6 : w.heap.size + 1 ≤ w6.heap.size := by have := hf.2.2.size; omega
          have HSF := Lib.hid hf
          clear hown6 hgrow6 hlie6 hf
          go_wp2
          go_roundw
          case rel =>
            refine ⟨k + 1, xs ++ cs2, by omega, by go_num, HO6.out, Lib.hid ?_, ?_, ?_, hs6⟩
            · exact SafeParts.snoc HP.out HO.out.1 hlen2 (by omega) (partsV_list hlt (by omega)) (fun T hT => hT.next HSF.out.1.1 HSF.out.1.2) (HS.out.next HSF.out.2.1.1 HSF.out.2.1.2) (by rw [World.size_alloc]; omega)
            · exact Lib.hid (RC.out.below HSF.out.2.2 (by omega))
            · exact Lib.hid (belowThen' HB.out HSF.out.2.2)
          case measure => simp [intOf]; omega
        · obtain rfl : k = v.list.length := by omega
          go_wp2_with fail
          go_simp
          go_loopw [4, 33] (fun s i wr => ∃ (k : Nat) (xs : List Value), k ≤ v.fields.length ∧ i = .int .i64 k ∧ wr.ownsRow (w.heap.size + 1) 30 13 s (v.list.length + k) xs ∧ Hid (SafeParts (w.heap.size + 1) N (partsV v) (v.list.length + k) s wr xs) ∧
              Hid (CellsAt wr w.heap.size 0 cs) ∧ Hid (Below w.heap.size w wr) ∧ w.heap.size + 1 ≤ wr.heap.size) (fun _ i _ => v.fields.length - (intOf i).toNat)
          case atStart => exact ⟨0, xs, by omega, rfl, HO.out, HP, RC, HB, hs⟩
          case round =>
            clear RC HB HP HO hs c11 c12 hlt
            obtain ⟨w7, hw7⟩ : ∃ w7, w7 = w2 := ⟨_, rfl⟩
            clear hw7
            obtain ⟨w2, rfl⟩ : ∃ w2, w2 = wr := ⟨wr, rfl⟩
            obtain ⟨k, xs, hk, rfl, hown, HP, RC, HB, hs⟩ := hrel
            have HO := Lib.hid hown
            clear hown
            by_cases hlt : k < v.fields.length
            · obtain ⟨b, o, rfl, hb, hget⟩ := HH.out.atFields.get (by intro h; simp [h] at hlt)
              obtain ⟨cs1, _, h1, h2⟩ := hget k hlt
              obtain ⟨ky, hky⟩ : ∃ ky, ky = v.fields[k].1 := ⟨_, rfl⟩
              rw [← hky] at h1
              clear hky
              have HR1 := Lib.hid (h1.below HB.out hb).range
              have H5 := Lib.hid (show ValD.At (w2.alloc (.cells (.string ky :: cs1).toArray 57)) w.heap.size N v.fields[k].2 cs1 from h2.below (belowThen HB.out (belowBox w2 _)))
              have HB5 := Lib.hid (show w.heap.size ≤ (w2.alloc (.cells (.string ky :: cs1).toArray 57)).heap.size by rw [World.size_alloc]; omega)
              have hl1 := Lib.hid (show (Tryd.prog.info? 57).map (·.size) = some (Value.string ky :: cs1).length by rw [List.length_cons, h2.len]; exact sizeF)
              have hl2 := Lib.hid (show (Tryd.prog.info? 57).map (·.size) = some (Value.string ky :: cs1).toArray.size by rw [List.size_toArray, List.length_cons, h2.len]; exact sizeF)
              have hl3 := Lib.hid (show zeroF.size = (Value.string ky :: cs1).toArray.size by show 14 = _; rw [List.size_toArray, List.length_cons, h2.len])
              have hl4 := Lib.hid (show (Tryd.prog.info? 30).map (·.size) = some cs1.length by rw [h2.len]; exact sizeV)
              have hone := Lib.hid (show (Value.string ky :: cs1).toArray.all (·.oneCell') = true from Go.all_oneCell_toArray (fun u hu => by
                rcases List.mem_cons.1 hu with rfl | hu
                · rfl
                · exact h2.oneCell u hu))
              have HFC := Lib.hid (HF.out.2 v.fields[k] (List.getElem_mem hlt))
              clear h1 h2 hget
              go_wp2_with (first
                | ((with_reducible show wpList _ _ _ (⟨some 36, _, _, _, _, _⟩ :: _) _ _); refine wpList_load_mid rfl 57 _ rfl b (o + k * 14) rfl (.string ky :: cs1) _ HR1.out Tryd.underlying57 rfl hl1.out ?_)
                | ((with_reducible show wpList _ _ _ (⟨none, .store 57 (.tmp 8) _, _, _, _, _⟩ :: _) _ _); refine wpList_store_new rfl 57 _ _ rfl zeroF (.string ky :: cs1).toArray rfl rfl hl2.out hl3.out hone.out ?_)
                | ((with_reducible show wpList _ _ _ (⟨some 39, _, _, _, _, _⟩ :: _) _ _); refine wpList_load_mid rfl 30 _ rfl w2.heap.size 1 rfl cs1 _ (box_at w2 (.string ky :: cs1) 57).tail.range Tryd.underlying30 rfl hl4.out ?_))
              refine (copy_ex 59 _ _ w.heap.size N cs1 (by omega) HFC.out hN HB5.out H5.out).mono ?_
              rintro e w5 ⟨cs2, rfl, hsafe, hb5⟩
              have HS := Lib.hid hsafe
              have H6 := Lib.hid hb5
              have hlen2 := hsafe.here.len
              have hfz := fold_zip0 cs2 #[.int .i64 0, .bool false, .bool false, .string ⟨#[]⟩, .int .i64 0, .int .i64 0, .int .i64 0, .int .i64 0, .int .i64 0, .string ⟨#[]⟩, .slice none 0 0, .slice none 0 0, .slice none 0 0] hsafe.here.len.symm
              have HO5 := Lib.hid (own_below' HO.out (belowThen (belowBox w2 _) hb5))
              have hs5 : w.heap.size + 1 ≤ w5.heap.size := by have := hb5.size; rw [World.size_alloc] at this; omega
              clear hsafe hb5
              go_wp2_with ((with_reducible show wpList _ _ _ (⟨some 42, _, _, _, _, _⟩ :: _) _ _); refine wpList_append_lies _ rfl _ _ 27 rfl (w.heap.size + 1) 30 i0 (.agg z0) 13 168 Tryd.underlying27 HI.out HZ0.out HZ1.out HZ2.out HZS.out (by decide) _ _ _ rfl (HO5.out.alloc _) ⟨w5.heap.size, 0, none⟩ 1 1 cs2 rfl HS.out.here.len ?c1 ?c2 (by decide) ?c3 ?c4 ?c5 _ rfl ?_)
              case c1 =>
                intro j u hj
                rw [addr_add', World.cell?_alloc_new]
                simpa using hj
              case c2 => exact HS.out.here.oneCell
              case c3 => unfold maxLen; omega
              case c4 => omega
              case c5 => rw [World.size_alloc]; omega
              intro g cap w6 hown6 hgrow6 hlie6 hlt6
              have hf := step_facts (L := w.heap.size + 1) hs (fun q hq => HO.out.lt q hq) H6.out hgrow6 (by rw [World.size_alloc]; exact hlie6)
              have HO6 := Lib.hid hown6
              have hs6 : w.heap.size + 1 ≤ w6.heap.size := by have := hf.2.2.size; omega
              have HSF := Lib.hid hf
              clear hown6 hgrow6 hlie6 hf
              go_wp2
              go_roundw
              case rel =>
                have hn9 : v.list.length + k < (partsV v).length := by omega
                refine ⟨k + 1, xs ++ cs2, by omega, by go_num, HO6.out, Lib.hid ?_, ?_, ?_, hs6⟩
                · exact SafeParts.snoc HP.out HO.out.1 hlen2 hn9 (partsV_field hlt hn9) (fun T hT => hT.next HSF.out.1.1 HSF.out.1.2) (HS.out.next HSF.out.2.1.1 HSF.out.2.1.2) (by rw [World.size_alloc]; omega)
                · exact Lib.hid (RC.out.below HSF.out.2.2 (by omega))
                · exact Lib.hid (belowThen' HB.out HSF.out.2.2)
              case measure => simp [intOf]; omega
            · obtain rfl : k = v.fields.length := by omega
              have hvs := vals_safe (N := N) (L := w.heap.size + 1) (l := partsV v) HO.out hpl (Nat.le_refl _) (fun i hi => HP.out i hi (by omega))
              obtain ⟨lb, ld, rfl, hls⟩ := hvs
              have HE := Lib.hid hls.here
              clear hls
              go_wp2_with fail
              go_ret2
              rw [HR.out]
              exact ⟨lb, ld, rfl, HE.out, HB.out⟩
  · have HR := Lib.hid (show eachD v = ([], 6) by unfold eachD; rw [if_neg hk])
    have k1 : (v.kind != 6) = true := by simp; omega
    have k2 : (v.kind != 7) = true := by simp; omega
    clear hk
    go_enter Tryd.func8, Tryd.ntmps8
    go_wp2_with fail
    go_ret2
    rw [HR.out]
    exact ⟨none, 0, rfl, trivial, belowBox w _⟩
end Go.Proofs.YtmbldgcbnkhabaaDoor
