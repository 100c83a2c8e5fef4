/- The reference's free variables (datakitref38.free, Free). -/
import Derived.Test.YtfegnmbdgdjkgaaGreatScw38
namespace Go.Proofs.YtfegnmbdgdjkgaaGreat
open Go.RowKit

theorem frF_len {f : ExprD → List ByteArray → List ByteArray} {g : ExprD → Nat} (e : ExprD) (vs : List ByteArray) (h : ∀ k (hk : k < e.funcs.length) vs, (f e.funcs[k].body vs).length ≤ g e.funcs[k].body) : ∀ k, k ≤ e.funcs.length → (frF f e vs k).length ≤ ((e.funcs.take k).map fun u => g u.body).sum
  | 0, _ => by rw [frF_0]; simp
  | k + 1, hk => by
    have ih := frF_len e vs h k (by omega)
    rw [frF_step f e vs hk, List.length_append, sum_step (fun u : FuncD => g u.body) hk]
    have := h k hk (vs ++ pvars e.funcs[k].params)
    omega
theorem frA_len {f : ExprD → List ByteArray → List ByteArray} {g : ExprD → Nat} (e : ExprD) (vs : List ByteArray) (h : ∀ k (hk : k < e.args.length) vs, (f e.args[k] vs).length ≤ g e.args[k]) : ∀ k, k ≤ e.args.length → (frA f e vs k).length ≤ ((e.args.take k).map g).sum
  | 0, _ => by rw [frA_0]; simp
  | k + 1, hk => by
    have ih := frA_len e vs h k (by omega)
    rw [frA_step f e vs hk, List.length_append, sum_step g hk]
    have := h k hk (vs ++ innV e.op e.name k)
    omega
theorem ndV_len (e : ExprD) (vs : List ByteArray) : (ndV e vs).length ≤ 1 := by unfold ndV; split <;> simp
theorem insAll_len (L : List ByteArray) : ∀ l : List ByteArray, (insAll l L).length ≤ l.length + L.length := by
  induction L with
  | nil => intro l; exact Nat.le_refl _
  | cons s r ih =>
    intro l
    have h1 := ih (insR l s)
    have h2 := insR_len l s
    show (insAll (insR l s) r).length ≤ l.length + (r.length + 1)
    omega
theorem insR_ne (l : List ByteArray) (s : ByteArray) : insR l s ≠ [] := by
  cases l with
  | nil => simp [insR]
  | cons x r =>
    unfold insR
    split
    · simp
    · split <;> simp

/-- A sorted list, nil while it is empty. -/
def NmsI (l : List ByteArray) (w : World) (e : Ending) (w' : World) : Prop := ∃ (a : Option Addr) (c : Nat), e = .returned (.slice a l.length c) ∧ l.length ≤ c ∧ c ≤ maxLen ∧ NmsAt w' 0 w'.heap.size l a ∧ (l = [] → a = none ∧ c = 0) ∧ Below w.heap.size w w'
def FreeX (x : ExprD) (F : List ByteArray → List ByteArray) (n K : Nat) : Prop := ∀ (w : World) (B N : Nat) (xs : List Value) (d : ScD) (cs : List Value) (l : List ByteArray) (a : Option Addr) (c C : Nat),
  N ≤ 1048576 → C + K ≤ 536870912 → l.length + n ≤ 65536 → B ≤ w.heap.size → l.length ≤ c → c ≤ maxLen → NmsAt w 0 B l a → (l = [] → a = none ∧ c = 0) → ScD.At w 0 B C d cs → ExprD.At w B N x xs →
  Calls Tryz.prog 14 #[.agg xs.toArray, .agg cs.toArray, .slice a l.length c] w (NmsI (insAll l (F d.vs)) w)
/-- What stands while 'free' goes on: two boxes. -/
structure BoxF (w u : World) (xs cs : List Value) : Prop where
  row : CellsAt u w.heap.size 0 xs
  sc : CellsAt u (w.heap.size + 1) 0 cs
  low : Below w.heap.size w u
  size : w.heap.size + 2 ≤ u.heap.size
theorem BoxF.start (w : World) (xs cs : List Value) (t1 t2 : TypeId) : BoxF w ((w.alloc (.cells xs.toArray t1)).alloc (.cells cs.toArray t2)) xs cs := by
  have s1 : (w.alloc (.cells xs.toArray t1)).heap.size = w.heap.size + 1 := World.size_alloc _ _
  refine ⟨(box_at w xs t1).then (belowBox _ _) (by rw [s1]; omega), ?_, belowThen (belowBox w _) (belowBox _ _), by rw [World.size_alloc, s1]; omega⟩
  have h := box_at (w.alloc (.cells xs.toArray t1)) cs t2
  rw [s1] at h
  exact h
theorem BoxF.below {w u u' : World} {xs cs : List Value} (h : BoxF w u xs cs) (hb : Below u.heap.size u u') : BoxF w u' xs cs :=
  ⟨h.row.then hb (by have := h.size; omega), h.sc.then hb (by have := h.size; omega), belowThen h.low hb, Nat.le_trans h.size hb.size⟩
theorem drewB (w : World) : Below w.heap.size w w.drew := ⟨rfl, rfl, rfl, Nat.le_refl _, fun _ _ => rfl⟩
theorem NmsI.gen {l l' : List ByteArray} {w : World} {e : Ending} {w' : World} (h : NmsI l w e w') (hl : l = l') : NmsI l' w e w' := hl ▸ h

/-- An operation that may be taken first, the state written out as a list. -/
theorem wpAnyH_takeT {P : Program} {ops : Array Oper} {Q : Exit → Act → World → Prop} {md : Region.Mode} {S : World → Prop} {i : Nat} {oi : Oper} {v : Value} {fuel : Nat} {listed : Array Bool} {l : List Value} {df : List Deferred} {w : World} (t : Nat) (hi : ops[i]? = some oi) (hd : oi.dst = some t)
    (hs : Region.noSelect ops = true) (hf : Region.free md ops listed i = true) (hr : (Region.ready md ops listed).contains i = true)
    (hQ : ∀ c a w, Q (.panic c) (a.put oi.dst v) w → Q (.panic c) a w) (hy : YieldsIf P ops S oi v ⟨l.toArray, df⟩) (hS : S w)
    (h : wpAnyH P md ops Q S fuel (listed.setIfInBounds i true) ⟨(l.set t v).toArray, df⟩ w) : wpAnyH P md ops Q S (fuel + 1) listed ⟨l.toArray, df⟩ w := by
  refine wpAnyH_take hi hs hf hr hQ hy hS ?_
  have e : Act.put (⟨l.toArray, df⟩ : Act) oi.dst v = ⟨(l.set t v).toArray, df⟩ := by
    rw [hd]
    simp [Act.put]
  rw [e]
  exact h
set_option maxRecDepth 100000 in
set_option maxHeartbeats 6400000 in
theorem free_step (f : ExprD → List ByteArray → List ByteArray) (g : ExprD → Nat) (K : Nat) (x : ExprD) (hA : ∀ k (h : k < x.args.length), FreeX x.args[k] (f x.args[k]) (g x.args[k]) K) (hF : ∀ k (h : k < x.funcs.length), FreeX x.funcs[k].body (f x.funcs[k].body) (g x.funcs[k].body) K)
    (hlA : ∀ k (h : k < x.args.length) vs, (f x.args[k] vs).length ≤ g x.args[k]) (hlF : ∀ k (h : k < x.funcs.length) vs, (f x.funcs[k].body vs).length ≤ g x.funcs[k].body) :
    FreeX x (fun vs => ndV x vs ++ frF f x vs x.funcs.length ++ frA f x vs x.args.length) (1 + (x.funcs.map fun u => g u.body).sum + (x.args.map g).sum) (K + 2097152) := by
  intro w B N xs d cs l a c C hN hC hn hB hc1 hc2 hl hnil hd hx
  have IA := Lib.hid hA
  have IF := Lib.hid hF
  have HLA := Lib.hid hlA
  have HLF := Lib.hid hlF
  have HNN := Lib.hid hn
  have HL0 := Lib.hid (hl.mono hB)
  have HD := Lib.hid hd
  have HX := Lib.hid hx
  have hsz := Lib.hid (show (Tryz.prog.info? 59).map (·.size) = some cs.length by rw [hd.len]; kernel_rfl)
  have hlx := Lib.hid (show (Tryz.prog.info? 34).map (·.size) = some xs.length by rw [hx.len]; exact sizeE)
  obtain ⟨aa, fa, ac, fc, vs, hh⟩ := hx.has
  have c0 := hh.op
  have c1 := hh.name
  have c15 := hh.args
  have c16 := hh.funcs
  have hal : x.args.length ≤ N := hh.own.2.2.1
  have hfl : x.funcs.length ≤ N := hh.own.2.2.2
  have HAr := Lib.hid hh.atArgs
  have HU := Lib.hid hh.atFuncs
  obtain ⟨va, la, ga, vc, lc, gc, hcs, hv, hls, hg, k1, k2, k3⟩ := hd
  have HV := Lib.hid hv
  have z0 : cs[0]? = some (.slice va d.vs.length vc) := by rw [hcs]; rfl
  have k1' : d.vs.length ≤ 536870912 := by omega
  have B0 := Lib.hid (BoxF.start w xs cs 34 59)
  have e0 := B0.out.row.get0 c0
  have e1 := B0.out.row.get0 c1
  have e2 := B0.out.sc.get0 z0
  have HNIL := Lib.hid hnil
  have HLO := Lib.hid (show ∀ u, Below w.heap.size w u → NmsAt u 0 w.heap.size l a from fun u hu => HL0.out.keep (Kept.of_below hu))
  clear hh hx hA hF hlA hlF hl hnil hv hls hg k1 k2 k3 hcs hn
  obtain ⟨RR, hRR⟩ : ∃ RR : List ByteArray → List ByteArray, RR = fun L => insAll l (ndV x d.vs ++ L) := ⟨_, rfl⟩
  obtain ⟨R, hR⟩ : ∃ R, R = RR (frF f x d.vs x.funcs.length ++ frA f x d.vs x.args.length) := ⟨_, rfl⟩
  have hgoal : insAll l ((fun vs => ndV x vs ++ frF f x vs x.funcs.length ++ frA f x vs x.args.length) d.vs) = R := by rw [hR, hRR]; simp [List.append_assoc]
  rw [hgoal]
  have HRR := Lib.hid hRR
  have HR := Lib.hid hR
  obtain ⟨T, hT⟩ : ∃ T, l.length = T := ⟨_, rfl⟩
  have HTN := Lib.hid (show T + (1 + (x.funcs.map fun u => g u.body).sum + (x.args.map g).sum) ≤ 65536 by have := HNN.out; omega)
  have hT1 : l.length ≤ T + 1 := by omega
  have hT2 : l.length ≤ 65536 := by have := HNN.out; omega
  have hT3 : (insR l x.name).length ≤ T + 1 := by have := insR_len l x.name; omega
  have HT3 := Lib.hid hT3
  clear hgoal hRR hR HNN hT hT3
  have hcase : (x.op = 4 ∧ memB d.vs x.name = false) ∨ (x.op = 4 ∧ memB d.vs x.name = true) ∨ (x.op == 4) = false := by
    by_cases h4 : x.op = 4
    · cases hm : memB d.vs x.name
      · exact .inl ⟨h4, rfl⟩
      · exact .inr (.inl ⟨h4, rfl⟩)
    · exact .inr (.inr (by simpa using h4))
  rcases hcase with ⟨h4, hm⟩ | ⟨h4, hm⟩ | h4
  case' inl =>
    have HND := Lib.hid (show ∀ L, insAll (insR l x.name) L = RR L from fun L => by rw [HRR.out]; unfold ndV; rw [if_pos ⟨h4, hm⟩]; rfl)
    have HM := Lib.hid hm
    rw [h4] at c0 e0
    clear hm h4
    go_enter Tryz.func14, Tryz.ntmps14
    go_wp2_with fail
    refine (has_r d.vs x.name va vc _ 0 B (by omega) (HV.out.keep (Kept.of_below (B0.out.low.mono hB)))).mono ?_
    rintro e w' ⟨rfl, rfl⟩
    rw [HM.out]
    go_wp2_with fail
    refine (insert_r l x.name a c _ 0 w.heap.size (by omega) hc1 hc2 (by have := B0.out.size; omega) (Nat.zero_le _) (HLO.out _ B0.out.low) HNIL.out).mono ?_
    rintro e w2 ⟨a1, c1, rfl, hq1, hq2, hn2, hb2⟩
    have B2 := Lib.hid (B0.out.below hb2)
    have HN2 := Lib.hid hn2
    have HI2 := Lib.hid (show insR l x.name = [] → a1 = none ∧ c1 = 0 from fun h => absurd h (insR_ne l x.name))
    obtain ⟨l1, hl1⟩ : ∃ l1, l1 = insR l x.name := ⟨_, rfl⟩
    have hT4 := HT3.out
    rw [← hl1] at HND hq1 HN2 HI2 hT4 ⊢
    clear hn2 hb2 e0 e1 e2 hl1 hc1 hc2 hT1 hT2 c0
  case' inr.inl =>
    have HND := Lib.hid (show ∀ L, insAll l L = RR L from fun L => by rw [HRR.out]; unfold ndV; rw [if_neg (by rw [hm]; simp)]; rfl)
    have HM := Lib.hid hm
    rw [h4] at c0 e0
    clear hm h4
    go_enter Tryz.func14, Tryz.ntmps14
    go_wp2_with fail
    refine (has_r d.vs x.name va vc _ 0 B (by omega) (HV.out.keep (Kept.of_below (B0.out.low.mono hB)))).mono ?_
    rintro e w' ⟨rfl, rfl⟩
    rw [HM.out]
  case' inr.inr =>
    have HND := Lib.hid (show ∀ L, insAll l L = RR L from fun L => by rw [HRR.out]; unfold ndV; rw [if_neg (by intro h; rw [h.1] at h4; cases h4)]; rfl)
    go_enter Tryz.func14, Tryz.ntmps14
    go_wp2_with fail
  case' inr.inl | inr.inr =>
    obtain ⟨w2, hw2⟩ : ∃ w2, w2 = ((w.alloc (.cells xs.toArray 34)).alloc (.cells cs.toArray 59)) := ⟨_, rfl⟩
    have B2 := B0
    have HN2 := Lib.hid ((HLO.out _ B0.out.low).mono (show w.heap.size ≤ _ from B0.out.low.size))
    rw [← hw2] at B2 HN2 ⊢
    have HI2 := HNIL
    obtain ⟨l1, rfl⟩ : ∃ l1, l1 = l := ⟨l, rfl⟩
    obtain ⟨a1, rfl⟩ : ∃ a1, a1 = a := ⟨a, rfl⟩
    obtain ⟨c1, rfl⟩ : ∃ c1, c1 = c := ⟨c, rfl⟩
    have hq1 := hc1
    have hq2 := hc2
    have hT4 := hT1
    clear e0 e1 e2 hw2 hc1 hc2 hT1 hT2 c0
  all_goals
    clear B0 HLO HT3 HNIL HL0 HRR
    have d16 := B2.out.row.get0 c16
    go_wp2_with fail
    go_simp
    go_loopw [2, 7] (fun sv i wr => ∃ (ai : Option Addr) (ci : Nat) (li : List ByteArray) (k : Nat), k ≤ x.funcs.length ∧ sv = .slice ai li.length ci ∧ i = .int .i64 k ∧ li.length ≤ ci ∧ ci ≤ maxLen ∧ Hid (∀ L, insAll li L = RR (frF f x d.vs k ++ L)) ∧ Hid (li.length ≤ T + 1 + ((x.funcs.take k).map fun u => g u.body).sum) ∧
      Hid (BoxF w wr xs cs) ∧ Hid (NmsAt wr 0 wr.heap.size li ai) ∧ Hid (li = [] → ai = none ∧ ci = 0)) (fun _ i _ => x.funcs.length - (intOf i).toNat)
    case atStart => exact ⟨a1, c1, l1, 0, by omega, rfl, rfl, hq1, hq2, HND, Lib.hid (by simpa using hT4), B2, HN2, HI2⟩
    case round =>
      obtain ⟨w1, rfl⟩ : ∃ w1, w1 = wr := ⟨wr, rfl⟩
      clear HND B2 HN2 HI2 hT4 d16 hq1 hq2
      obtain ⟨ai, ci, li, k, hk, rfl, rfl, hq1, hq2, HQ, HLI, B1, HN1, HI1⟩ := hrel
      have d16 := B1.out.row.get0 c16
      by_cases hlt : k < x.funcs.length
      case pos =>
        obtain ⟨b, p, rfl, hb, hget⟩ := HU.out.get (by intro h; simp [h] at hlt)
        obtain ⟨fs, g1, g2⟩ := hget k hlt
        obtain ⟨es, g3, g4⟩ := FuncD.At.bodyAt g1 g2
        have hpl : x.funcs[k].params.length ≤ N := by obtain ⟨_, _, _, gh⟩ := g2.has; exact gh.hp
        have HFR := Lib.hid (show ∀ u, Below w.heap.size w u → CellsAt u b (p + k * 19) fs from fun u hu => g1.below (hu.mono hB) hb)
        have HER := Lib.hid (show ∀ u, Below w.heap.size w u → CellsAt u b (p + k * 19 + 2) es from fun u hu => g3.below (hu.mono hB) hb)
        have hlf := Lib.hid (show (Tryz.prog.info? 62).map (·.size) = some fs.length by rw [g2.len]; exact sizeFN)
        have hle := Lib.hid (show (Tryz.prog.info? 34).map (·.size) = some es.length by rw [g4.len]; exact sizeE)
        have G2 := Lib.hid g2
        have G4 := Lib.hid g4
        have HST := Lib.hid (sum_step (fun u : FuncD => g u.body) hlt)
        have HSL := Lib.hid (sum_le (fun u : FuncD => g u.body) x.funcs (k + 1))
        have HGN := Lib.hid (show li.length + g x.funcs[k].body ≤ 65536 by have h1 := HTN.out; have h2 := HLI.out; have h3 := HST.out; have h4 := HSL.out; omega)
        clear g1 g2 g3 g4 hget
        go_wp2_with fail
        refine wp_region_held_drew (S := fun u => BoxF w u xs cs ∧ Below w1.heap.size w1 u) (by kernel_rfl) ⟨B1.out.below (drewB w1), drewB w1⟩ (fun hHeld => ?_)
        refine' wpAnyH_takeT (i := 0) (v := .pointer (some ⟨w.heap.size, 16, none⟩)) _ rfl rfl (by kernel_rfl) (by kernel_rfl) (by kernel_rfl) (fun _ _ _ h => h) (.inl ⟨by rfl, fun u hu => (by go_simp)⟩) hHeld ?_
        simp only [List.set_cons_succ, List.set_cons_zero]
        refine' wpAnyH_takeT (i := 1) (v := .slice (some ⟨b, p, none⟩) x.funcs.length fc) _ rfl rfl (by kernel_rfl) (by kernel_rfl) (by kernel_rfl) (fun _ _ _ h => h) (.inl ⟨by rfl, fun u hu => (by have hc := hu.1.row.get0 c16; go_simp)⟩) hHeld ?_
        simp only [List.set_cons_succ, List.set_cons_zero]
        refine' wpAnyH_takeT (i := 2) (v := .int .i64 k) _ rfl rfl (by kernel_rfl) (by kernel_rfl) (by kernel_rfl) (fun _ _ _ h => h) (.inl ⟨by rfl, fun u hu => (by go_simp)⟩) hHeld ?_
        simp only [List.set_cons_succ, List.set_cons_zero]
        refine' wpAnyH_takeT (i := 3) (v := .pointer (some ⟨b, p + k * 19, none⟩)) _ rfl rfl (by kernel_rfl) (by kernel_rfl) (by kernel_rfl) (fun _ _ _ h => h) (.inl ⟨by rfl, fun u hu => (by go_simp)⟩) hHeld ?_
        simp only [List.set_cons_succ, List.set_cons_zero]
        refine' wpAnyH_takeT (i := 4) (v := .pointer (some ⟨b, p + k * 19 + 2, none⟩)) _ rfl rfl (by kernel_rfl) (by kernel_rfl) (by kernel_rfl) (fun _ _ _ h => h) (.inl ⟨by rfl, fun u hu => (by go_simp)⟩) hHeld ?_
        simp only [List.set_cons_succ, List.set_cons_zero]
        refine' wpAnyH_takeT (i := 5) (v := _) _ rfl rfl (by kernel_rfl) (by kernel_rfl) (by kernel_rfl) (fun _ _ _ h => h) (yieldsIf_load_mid (by kernel_rfl) 34 _ rfl (b) (p + k * 19 + 2) rfl es _ (fun u hu => (HER.out _ hu.1.low).range) Tryz.underlying34 rfl hle.out) hHeld ?_
        simp only [List.set_cons_succ, List.set_cons_zero]
        refine' wpAnyH_takeT (i := 6) (v := _) _ rfl rfl (by kernel_rfl) (by kernel_rfl) (by kernel_rfl) (fun _ _ _ h => h) (yieldsIf_load_mid (by kernel_rfl) 59 _ rfl (w.heap.size + 1) (0) rfl cs _ (fun u hu => hu.1.sc.range) Tryz.underlying59 rfl hsz.out) hHeld ?_
        simp only [List.set_cons_succ, List.set_cons_zero]
        refine' wpAnyH_takeT (i := 7) (v := .pointer (some ⟨w.heap.size, 16, none⟩)) _ rfl rfl (by kernel_rfl) (by kernel_rfl) (by kernel_rfl) (fun _ _ _ h => h) (.inl ⟨by rfl, fun u hu => (by go_simp)⟩) hHeld ?_
        simp only [List.set_cons_succ, List.set_cons_zero]
        refine' wpAnyH_takeT (i := 8) (v := .slice (some ⟨b, p, none⟩) x.funcs.length fc) _ rfl rfl (by kernel_rfl) (by kernel_rfl) (by kernel_rfl) (fun _ _ _ h => h) (.inl ⟨by rfl, fun u hu => (by have hc := hu.1.row.get0 c16; go_simp)⟩) hHeld ?_
        simp only [List.set_cons_succ, List.set_cons_zero]
        refine' wpAnyH_takeT (i := 9) (v := .int .i64 k) _ rfl rfl (by kernel_rfl) (by kernel_rfl) (by kernel_rfl) (fun _ _ _ h => h) (.inl ⟨by rfl, fun u hu => (by go_simp)⟩) hHeld ?_
        simp only [List.set_cons_succ, List.set_cons_zero]
        refine' wpAnyH_takeT (i := 10) (v := .pointer (some ⟨b, p + k * 19, none⟩)) _ rfl rfl (by kernel_rfl) (by kernel_rfl) (by kernel_rfl) (fun _ _ _ h => h) (.inl ⟨by rfl, fun u hu => (by go_simp)⟩) hHeld ?_
        simp only [List.set_cons_succ, List.set_cons_zero]
        refine' wpAnyH_takeT (i := 11) (v := _) _ rfl rfl (by kernel_rfl) (by kernel_rfl) (by kernel_rfl) (fun _ _ _ h => h) (yieldsIf_load_mid (by kernel_rfl) 62 _ rfl (b) (p + k * 19) rfl fs _ (fun u hu => (HFR.out _ hu.1.low).range) Tryz.underlying62 rfl hlf.out) hHeld ?_
        simp only [List.set_cons_succ, List.set_cons_zero]
        refine' wpAnyH_takeT (i := 13) (v := .slice ai li.length ci) _ rfl rfl (by kernel_rfl) (by kernel_rfl) (by kernel_rfl) (fun _ _ _ h => h) (.inl ⟨by rfl, fun u hu => (by go_simp)⟩) hHeld ?_
        simp only [List.set_cons_succ, List.set_cons_zero]
        refine wpAnyH_ready (rs := [12]) (by kernel_rfl) (by simp) ?_
        refine AllReadyH.cons rfl (fun K hK => ?_) AllReadyH.nil
        go_simp
        refine (params_r x.funcs[k] fs d cs _ 0 B C N (by omega) (by omega) (Nat.le_trans hB hHeld.1.low.size) (Nat.zero_le _) (HD.out.keep (Kept.of_below (hHeld.1.low.mono hB))) (G2.out.below (hHeld.1.low.mono hB))).mono ?_
        rintro e u1 ⟨d2, cs2, hv2, rfl, hs2, hb1⟩
        have HV2 := Lib.hid hv2
        have S2 := Lib.hid hs2
        refine hK.out _ _ ⟨hHeld.1.below hb1, belowThen hHeld.2 hb1⟩ (fun hHeld1 => ?_)
        clear hK K hHeld hb1 hs2 hv2
        refine wpAnyH_ready (rs := [14]) (by kernel_rfl) (by simp) ?_
        refine AllReadyH.cons rfl (fun K hK => ?_) AllReadyH.nil
        go_simp
        refine (IF.out k hlt _ u1.heap.size N es d2 cs2 li ai ci (C + x.funcs[k].params.length) hN (by omega) HGN.out (Nat.le_refl _) hq1 hq2 ((HN1.out.keep (Kept.of_below hHeld1.2)).mono hHeld1.2.size) HI1.out S2.out ((G4.out.below (hHeld1.1.low.mono hB)).mono (Nat.le_trans hB hHeld1.1.low.size))).mono ?_
        rintro e u2 ⟨a3, c3, rfl, h31, h32, hn3, hi3, hb2⟩
        have HN3 := Lib.hid hn3
        have HI3 := Lib.hid hi3
        refine hK.out _ _ ⟨hHeld1.1.below hb2, belowThen hHeld1.2 hb2⟩ (fun hHeld2 => ?_)
        clear hK K hHeld1 hb2 hn3 hi3
        refine wpAnyH_ready (rs := [15]) (by kernel_rfl) (by simp) ?_
        refine AllReadyH.cons rfl (fun K hK => ?_) AllReadyH.nil
        go_simp
        refine hK.out _ _ hHeld2 (fun hHeldx => ?_)
        clear hK K hHeldx
        refine wpAnyH_done (by kernel_rfl) ?_ _
        have B3 := Lib.hid hHeld2.1
        have HQ3 := Lib.hid (show ∀ L, insAll (insAll li (f x.funcs[k].body d2.vs)) L = RR (frF f x d.vs (k + 1) ++ L) from fun L => by
          rw [frF_step f x d.vs hlt, HV2.out, ← insAll_append, HQ.out, List.append_assoc])
        have HL3 := Lib.hid (show (insAll li (f x.funcs[k].body d2.vs)).length ≤ T + 1 + ((x.funcs.take (k + 1)).map fun u => g u.body).sum by
          have h1 := insAll_len (f x.funcs[k].body d2.vs) li
          have h2 := HLF.out k hlt d2.vs
          have h3 := HLI.out
          have h4 := HST.out
          omega)
        clear hHeld2 d16
        obtain ⟨l3, hl3⟩ : ∃ l3, l3 = insAll li (f x.funcs[k].body d2.vs) := ⟨_, rfl⟩
        rw [← hl3] at HN3 HI3 h31 HQ3 HL3 ⊢
        clear hl3
        go_wp2_with fail
        go_roundw
        case rel => exact ⟨a3, c3, l3, k + 1, by omega, rfl, by go_num, h31, h32, HQ3, HL3, B3, HN3, HI3⟩
        case measure => simp [intOf]; omega
      case neg =>
        obtain rfl : k = x.funcs.length := by omega
        have d15 := B1.out.row.get0 c15
        go_wp2_with fail
        go_simp
        go_loopw [2, 8] (fun sv i wr => ∃ (ai : Option Addr) (ci : Nat) (li : List ByteArray) (k : Nat), k ≤ x.args.length ∧ sv = .slice ai li.length ci ∧ i = .int .i64 k ∧ li.length ≤ ci ∧ ci ≤ maxLen ∧ Hid (∀ L, insAll li L = RR (frF f x d.vs x.funcs.length ++ (frA f x d.vs k ++ L))) ∧ Hid (li.length ≤ T + 1 + (x.funcs.map fun u => g u.body).sum + ((x.args.take k).map g).sum) ∧
          Hid (BoxF w wr xs cs) ∧ Hid (NmsAt wr 0 wr.heap.size li ai) ∧ Hid (li = [] → ai = none ∧ ci = 0)) (fun _ i _ => x.args.length - (intOf i).toNat)
        case atStart => exact ⟨ai, ci, li, 0, by omega, rfl, rfl, hq1, hq2, Lib.hid (fun L => by rw [HQ.out, frA_0]; rfl), Lib.hid (by have := HLI.out; rw [List.take_length] at this; simpa using this), B1, HN1, HI1⟩
        case round =>
          obtain ⟨w1, rfl⟩ : ∃ w1, w1 = wr := ⟨wr, rfl⟩
          clear HQ HLI B1 HN1 HI1 d15 d16 hq1 hq2
          obtain ⟨ai, ci, li, k, hk, rfl, rfl, hq1, hq2, HQ, HLI, B1, HN1, HI1⟩ := hrel
          have d15 := B1.out.row.get0 c15
          by_cases hlt : k < x.args.length
          case pos =>
            obtain ⟨b, p, rfl, hb, hget⟩ := HAr.out.get (by intro h; simp [h] at hlt)
            obtain ⟨es, g1, g2⟩ := hget k hlt
            have HER := Lib.hid (show ∀ u, Below w.heap.size w u → CellsAt u b (p + k * 17) es from fun u hu => g1.below (hu.mono hB) hb)
            have hle := Lib.hid (show (Tryz.prog.info? 34).map (·.size) = some es.length by rw [g2.len]; exact sizeE)
            have G4 := Lib.hid g2
            have HST := Lib.hid (sum_step g hlt)
            have HSL := Lib.hid (sum_le g x.args (k + 1))
            have HGN := Lib.hid (show li.length + g x.args[k] ≤ 65536 by have h1 := HTN.out; have h2 := HLI.out; have h3 := HST.out; have h4 := HSL.out; omega)
            clear g1 g2 hget
            go_wp2_with fail
            refine wp_region_held_drew (S := fun u => BoxF w u xs cs ∧ Below w1.heap.size w1 u) (by kernel_rfl) ⟨B1.out.below (drewB w1), drewB w1⟩ (fun hHeld => ?_)
            refine' wpAnyH_takeT (i := 0) (v := .pointer (some ⟨w.heap.size, 15, none⟩)) _ rfl rfl (by kernel_rfl) (by kernel_rfl) (by kernel_rfl) (fun _ _ _ h => h) (.inl ⟨by rfl, fun u hu => (by go_simp)⟩) hHeld ?_
            simp only [List.set_cons_succ, List.set_cons_zero]
            refine' wpAnyH_takeT (i := 1) (v := .slice (some ⟨b, p, none⟩) x.args.length ac) _ rfl rfl (by kernel_rfl) (by kernel_rfl) (by kernel_rfl) (fun _ _ _ h => h) (.inl ⟨by rfl, fun u hu => (by have hc := hu.1.row.get0 c15; go_simp)⟩) hHeld ?_
            simp only [List.set_cons_succ, List.set_cons_zero]
            refine' wpAnyH_takeT (i := 2) (v := .int .i64 k) _ rfl rfl (by kernel_rfl) (by kernel_rfl) (by kernel_rfl) (fun _ _ _ h => h) (.inl ⟨by rfl, fun u hu => (by go_simp)⟩) hHeld ?_
            simp only [List.set_cons_succ, List.set_cons_zero]
            refine' wpAnyH_takeT (i := 3) (v := .pointer (some ⟨b, p + k * 17, none⟩)) _ rfl rfl (by kernel_rfl) (by kernel_rfl) (by kernel_rfl) (fun _ _ _ h => h) (.inl ⟨by rfl, fun u hu => (by go_simp)⟩) hHeld ?_
            simp only [List.set_cons_succ, List.set_cons_zero]
            refine' wpAnyH_takeT (i := 4) (v := _) _ rfl rfl (by kernel_rfl) (by kernel_rfl) (by kernel_rfl) (fun _ _ _ h => h) (yieldsIf_load_mid (by kernel_rfl) 34 _ rfl (b) (p + k * 17) rfl es _ (fun u hu => (HER.out _ hu.1.low).range) Tryz.underlying34 rfl hle.out) hHeld ?_
            simp only [List.set_cons_succ, List.set_cons_zero]
            refine' wpAnyH_takeT (i := 5) (v := _) _ rfl rfl (by kernel_rfl) (by kernel_rfl) (by kernel_rfl) (fun _ _ _ h => h) (yieldsIf_load_mid (by kernel_rfl) 34 _ rfl (w.heap.size) (0) rfl xs _ (fun u hu => hu.1.row.range) Tryz.underlying34 rfl hlx.out) hHeld ?_
            simp only [List.set_cons_succ, List.set_cons_zero]
            refine' wpAnyH_takeT (i := 6) (v := .int .i64 k) _ rfl rfl (by kernel_rfl) (by kernel_rfl) (by kernel_rfl) (fun _ _ _ h => h) (.inl ⟨by rfl, fun u hu => (by go_simp)⟩) hHeld ?_
            simp only [List.set_cons_succ, List.set_cons_zero]
            refine' wpAnyH_takeT (i := 7) (v := _) _ rfl rfl (by kernel_rfl) (by kernel_rfl) (by kernel_rfl) (fun _ _ _ h => h) (yieldsIf_load_mid (by kernel_rfl) 59 _ rfl (w.heap.size + 1) (0) rfl cs _ (fun u hu => hu.1.sc.range) Tryz.underlying59 rfl hsz.out) hHeld ?_
            simp only [List.set_cons_succ, List.set_cons_zero]
            refine' wpAnyH_takeT (i := 9) (v := .slice ai li.length ci) _ rfl rfl (by kernel_rfl) (by kernel_rfl) (by kernel_rfl) (fun _ _ _ h => h) (.inl ⟨by rfl, fun u hu => (by go_simp)⟩) hHeld ?_
            simp only [List.set_cons_succ, List.set_cons_zero]
            refine wpAnyH_ready (rs := [8]) (by kernel_rfl) (by simp) ?_
            refine AllReadyH.cons rfl (fun K hK => ?_) AllReadyH.nil
            go_simp
            refine (within_r x xs k d cs _ 0 B C N (by omega) (by omega) (by omega) (Nat.le_trans hB hHeld.1.low.size) (Nat.zero_le _) (HD.out.keep (Kept.of_below (hHeld.1.low.mono hB))) (HX.out.below (hHeld.1.low.mono hB))).mono ?_
            rintro e u1 ⟨d2, cs2, hv2, rfl, hs2, hb1⟩
            have HV2 := Lib.hid hv2
            have S2 := Lib.hid hs2
            refine hK.out _ _ ⟨hHeld.1.below hb1, belowThen hHeld.2 hb1⟩ (fun hHeld1 => ?_)
            clear hK K hHeld hb1 hs2 hv2
            refine wpAnyH_ready (rs := [10]) (by kernel_rfl) (by simp) ?_
            refine AllReadyH.cons rfl (fun K hK => ?_) AllReadyH.nil
            go_simp
            refine (IA.out k hlt _ u1.heap.size N es d2 cs2 li ai ci (C + N + 1) hN (by omega) HGN.out (Nat.le_refl _) hq1 hq2 ((HN1.out.keep (Kept.of_below hHeld1.2)).mono hHeld1.2.size) HI1.out S2.out ((G4.out.below (hHeld1.1.low.mono hB)).mono (Nat.le_trans hB hHeld1.1.low.size))).mono ?_
            rintro e u2 ⟨a3, c3, rfl, h31, h32, hn3, hi3, hb2⟩
            have HN3 := Lib.hid hn3
            have HI3 := Lib.hid hi3
            refine hK.out _ _ ⟨hHeld1.1.below hb2, belowThen hHeld1.2 hb2⟩ (fun hHeld2 => ?_)
            clear hK K hHeld1 hb2 hn3 hi3
            refine wpAnyH_ready (rs := [11]) (by kernel_rfl) (by simp) ?_
            refine AllReadyH.cons rfl (fun K hK => ?_) AllReadyH.nil
            go_simp
            refine hK.out _ _ hHeld2 (fun hHeldx => ?_)
            clear hK K hHeldx
            refine wpAnyH_done (by kernel_rfl) ?_ _
            have B3 := Lib.hid hHeld2.1
            have HQ3 := Lib.hid (show ∀ L, insAll (insAll li (f x.args[k] d2.vs)) L = RR (frF f x d.vs x.funcs.length ++ (frA f x d.vs (k + 1) ++ L)) from fun L => by
              rw [frA_step f x d.vs hlt, HV2.out, ← insAll_append, HQ.out, List.append_assoc])
            have HL3 := Lib.hid (show (insAll li (f x.args[k] d2.vs)).length ≤ T + 1 + (x.funcs.map fun u => g u.body).sum + ((x.args.take (k + 1)).map g).sum by
              have h1 := insAll_len (f x.args[k] d2.vs) li
              have h2 := HLA.out k hlt d2.vs
              have h3 := HLI.out
              have h4 := HST.out
              omega)
            clear hHeld2 d15
            obtain ⟨l3, hl3⟩ : ∃ l3, l3 = insAll li (f x.args[k] d2.vs) := ⟨_, rfl⟩
            rw [← hl3] at HN3 HI3 h31 HQ3 HL3 ⊢
            clear hl3
            go_wp2_with fail
            go_roundw
            case rel => exact ⟨a3, c3, l3, k + 1, by omega, rfl, by go_num, h31, h32, HQ3, HL3, B3, HN3, HI3⟩
            case measure => simp [intOf]; omega
          case neg =>
            obtain rfl : k = x.args.length := by omega
            have HE := Lib.hid (show li = R by
              have h := HQ.out []
              rw [insAll_nil, List.append_nil] at h
              rw [h, HR.out])
            go_wp2_with fail
            go_ret
            rw [← HE.out]
            exact ⟨ai, ci, rfl, hq1, hq2, HN1.out, HI1.out, B1.out.low⟩
theorem frE_len (m : Nat) : ∀ (x : ExprD) (vs : List ByteArray), (frE m x vs).length ≤ ndE m x := by
  induction m with
  | zero => intro x vs; exact ndV_len x vs
  | succ m ih =>
    intro x vs
    show (ndV x vs ++ frF (frE m) x vs x.funcs.length ++ frA (frE m) x vs x.args.length).length ≤ _
    have h1 := ndV_len x vs
    have h2 := frF_len (g := ndE m) x vs (fun k hk vs => ih _ vs) x.funcs.length (Nat.le_refl _)
    have h3 := frA_len (g := ndE m) x vs (fun k hk vs => ih _ vs) x.args.length (Nat.le_refl _)
    rw [List.take_length] at h2 h3
    rw [List.length_append, List.length_append]
    show _ ≤ 1 + (x.funcs.map fun f => ndE m f.body).sum + (x.args.map (ndE m)).sum
    omega
theorem free_all (m : Nat) : ∀ x, gdE m x → FreeX x (frE m x) (ndE m x) ((m + 1) * 2097152) := by
  induction m with
  | zero =>
    intro x h
    obtain ⟨_, ha, hf⟩ := h
    have h := free_step (fun _ _ => []) (fun _ => 0) 0 x (fun k h => by rw [ha] at h; simp at h) (fun k h => by rw [hf] at h; simp at h) (fun k h => by rw [ha] at h; simp at h) (fun k h => by rw [hf] at h; simp at h)
    rw [ha, hf] at h
    have e : (fun vs => ndV x vs ++ frF (fun _ _ => []) x vs ([] : List FuncD).length ++ frA (fun _ _ => []) x vs ([] : List ExprD).length) = frE 0 x := by
      funext vs
      show ndV x vs ++ frF _ x vs 0 ++ frA _ x vs 0 = ndV x vs
      rw [frF_0, frA_0]
      simp
    rw [e] at h
    simpa [ndE] using h
  | succ m ih =>
    intro x h
    have h1 := free_step (frE m) (ndE m) ((m + 1) * 2097152) x (fun k hk => ih _ (h.2.1 _ (List.getElem_mem hk))) (fun k hk => ih _ (h.2.2 _ (List.getElem_mem hk))) (fun k hk vs => frE_len m _ vs) (fun k hk vs => frE_len m _ vs)
    have e : (m + 1) * 2097152 + 2097152 = (m + 1 + 1) * 2097152 := by omega
    rw [e] at h1
    exact h1
end Go.Proofs.YtfegnmbdgdjkgaaGreat
