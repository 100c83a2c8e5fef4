/- Names in a row, pairs in a row, scopes: how they lie in memory; appending to an own row. -/
import Derived.Test.YtfegnmbdgdjkgaaGreatGE
import Derived.Laws.AppendOwn
import Derived.Laws.Rows
namespace Go.Proofs.YtfegnmbdgdjkgaaGreat
open Go.RowKit

/-- All blocks from lo to B are as they were. -/
def Kept (lo B : Nat) (w w' : World) : Prop := ∀ k, lo ≤ k → k < B → w'.heap[k]? = w.heap[k]?
theorem Kept.of_below {lo B : Nat} {w w' : World} (h : Below B w w') : Kept lo B w w' := fun k _ hk => h.block k hk
theorem Kept.cell {lo B b o : Nat} {w w' : World} (h : Kept lo B w w') (h1 : lo ≤ b) (h2 : b < B) : w'.cell? ⟨b, o, none⟩ = w.cell? ⟨b, o, none⟩ := by
  simp only [World.cell?]
  rw [h b h1 h2]
def NmsAt (w : World) (lo B : Nat) (l : List ByteArray) (a : Option Addr) : Prop :=
  l = [] ∨ ∃ b, a = some ⟨b, 0, none⟩ ∧ lo ≤ b ∧ b < B ∧ ∀ (j : Nat) x, l[j]? = some x → w.cell? ⟨b, j, none⟩ = some (.string x)
theorem NmsAt.keep {w w' : World} {lo B : Nat} {l : List ByteArray} {a : Option Addr} (h : NmsAt w lo B l a) (hk : Kept lo B w w') : NmsAt w' lo B l a := by
  rcases h with h | ⟨b, h1, h2, h3, h4⟩
  · exact .inl h
  · exact .inr ⟨b, h1, h2, h3, fun j x hx => (hk.cell h2 h3).trans (h4 j x hx)⟩
theorem NmsAt.mono {w : World} {lo B B' : Nat} {l : List ByteArray} {a : Option Addr} (h : NmsAt w lo B l a) (hB : B ≤ B') : NmsAt w lo B' l a := by
  rcases h with h | ⟨b, h1, h2, h3, h4⟩
  · exact .inl h
  · exact .inr ⟨b, h1, h2, Nat.lt_of_lt_of_le h3 hB, h4⟩
theorem NmsAt.less {w : World} {lo lo' B : Nat} {l : List ByteArray} {a : Option Addr} (h : NmsAt w lo B l a) (hl : lo' ≤ lo) : NmsAt w lo' B l a := by
  rcases h with h | ⟨b, h1, h2, h3, h4⟩
  · exact .inl h
  · exact .inr ⟨b, h1, Nat.le_trans hl h2, h3, h4⟩
theorem NmsAt.get {w : World} {lo B : Nat} {l : List ByteArray} {a : Option Addr} (h : NmsAt w lo B l a) (hn : l ≠ []) : ∃ b, a = some ⟨b, 0, none⟩ ∧ lo ≤ b ∧ b < B ∧ ∀ (j : Nat) (hj : j < l.length), w.cell? ⟨b, j, none⟩ = some (.string l[j]) := by
  rcases h with h | ⟨b, h1, h2, h3, h4⟩
  · exact absurd h hn
  · exact ⟨b, h1, h2, h3, fun j hj => h4 j _ (List.getElem?_eq_getElem hj)⟩
/-- Names and numbers, two cells each. -/
def SgsAt (w : World) (lo B : Nat) (l : List (ByteArray × Int)) (a : Option Addr) : Prop :=
  l = [] ∨ ∃ b, a = some ⟨b, 0, none⟩ ∧ lo ≤ b ∧ b < B ∧ ∀ (j : Nat) u, (l.flatMap fun x => [Value.string x.1, .int .i64 x.2])[j]? = some u → w.cell? ⟨b, j, none⟩ = some u
theorem SgsAt.keep {w w' : World} {lo B : Nat} {l : List (ByteArray × Int)} {a : Option Addr} (h : SgsAt w lo B l a) (hk : Kept lo B w w') : SgsAt w' lo B l a := by
  rcases h with h | ⟨b, h1, h2, h3, h4⟩
  · exact .inl h
  · exact .inr ⟨b, h1, h2, h3, fun j x hx => (hk.cell h2 h3).trans (h4 j x hx)⟩
theorem SgsAt.mono {w : World} {lo B B' : Nat} {l : List (ByteArray × Int)} {a : Option Addr} (h : SgsAt w lo B l a) (hB : B ≤ B') : SgsAt w lo B' l a := by
  rcases h with h | ⟨b, h1, h2, h3, h4⟩
  · exact .inl h
  · exact .inr ⟨b, h1, h2, Nat.lt_of_lt_of_le h3 hB, h4⟩
theorem SgsAt.less {w : World} {lo lo' B : Nat} {l : List (ByteArray × Int)} {a : Option Addr} (h : SgsAt w lo B l a) (hl : lo' ≤ lo) : SgsAt w lo' B l a := by
  rcases h with h | ⟨b, h1, h2, h3, h4⟩
  · exact .inl h
  · exact .inr ⟨b, h1, Nat.le_trans hl h2, h3, h4⟩
theorem sgs_len (l : List (ByteArray × Int)) : (l.flatMap fun x => [Value.string x.1, .int .i64 x.2]).length = l.length * 2 := by
  induction l with
  | nil => rfl
  | cons x r ih => rw [List.flatMap_cons, List.length_append, ih, List.length_cons]; simp; omega
theorem sgs_get (l : List (ByteArray × Int)) : ∀ (j : Nat) (h : j < l.length), (l.flatMap fun x => [Value.string x.1, .int .i64 x.2])[j * 2]? = some (.string l[j].1) ∧ (l.flatMap fun x => [Value.string x.1, .int .i64 x.2])[j * 2 + 1]? = some (.int .i64 l[j].2) := by
  induction l with
  | nil => intro j h; simp at h
  | cons x r ih =>
    intro j h
    cases j with
    | zero => simp
    | succ j =>
      have := ih j (by simpa using h)
      rw [List.flatMap_cons]
      simp only [List.getElem_cons_succ]
      rw [show (j + 1) * 2 = j * 2 + 1 + 1 by omega]
      exact ⟨by simpa using this.1, by simpa using this.2⟩
theorem SgsAt.get {w : World} {lo B : Nat} {l : List (ByteArray × Int)} {a : Option Addr} (h : SgsAt w lo B l a) (hn : l ≠ []) :
    ∃ b, a = some ⟨b, 0, none⟩ ∧ lo ≤ b ∧ b < B ∧ ∀ (j : Nat) (hj : j < l.length), w.cell? ⟨b, j * 2, none⟩ = some (.string l[j].1) ∧ w.cell? ⟨b, j * 2 + 1, none⟩ = some (.int .i64 l[j].2) := by
  rcases h with h | ⟨b, h1, h2, h3, h4⟩
  · exact absurd h hn
  · exact ⟨b, h1, h2, h3, fun j hj => ⟨h4 _ _ (sgs_get l j hj).1, h4 _ _ (sgs_get l j hj).2⟩⟩

theorem infoSt : (Tryz.prog.info? 9).map (fun i => (i.zero, i.size, i.bytes)) = some (some (.string ⟨#[]⟩), 1, 16) := by kernel_rfl
theorem nms_own {w' : World} {lo base : Nat} {v : Value} {l : List ByteArray} (h : w'.ownsRow base 9 1 v l.length (l.map .string)) (hlo : lo ≤ base) : ∃ a c, v = .slice a l.length c ∧ l.length ≤ c ∧ c ≤ maxLen ∧ NmsAt w' lo w'.heap.size l a := by
  have h0 := h
  rcases h.2 with ⟨rfl, hz⟩ | ⟨g, cap, cur, rfl, hg, hh, hn, hm, hs, ht⟩
  · obtain rfl := List.length_eq_zero_iff.1 hz
    exact ⟨none, 0, rfl, Nat.le_refl _, by unfold maxLen; omega, .inl rfl⟩
  · refine ⟨_, _, rfl, hn, hm, .inr ⟨g, rfl, Nat.le_trans hlo hg, (Array.getElem?_eq_some_iff.1 hh).1, fun j x hx => ?_⟩⟩
    have := h0.cells (g := g) rfl j (.string x) (by rw [List.getElem?_map, hx]; rfl)
    rw [addr_add', Nat.zero_add] at this
    exact this
theorem sgs_own {w' : World} {lo base : Nat} {t : TypeId} {v : Value} {l : List (ByteArray × Int)} (h : w'.ownsRow base t 2 v l.length (l.flatMap fun x => [Value.string x.1, .int .i64 x.2])) (hlo : lo ≤ base) :
    ∃ a c, v = .slice a l.length c ∧ l.length ≤ c ∧ c ≤ maxLen ∧ SgsAt w' lo w'.heap.size l a := by
  have h0 := h
  rcases h.2 with ⟨rfl, hz⟩ | ⟨g, cap, cur, rfl, hg, hh, hn, hm, hs, ht⟩
  · obtain rfl := List.length_eq_zero_iff.1 hz
    exact ⟨none, 0, rfl, Nat.le_refl _, by unfold maxLen; omega, .inl rfl⟩
  · refine ⟨_, _, rfl, hn, hm, .inr ⟨g, rfl, Nat.le_trans hlo hg, (Array.getElem?_eq_some_iff.1 hh).1, fun j x hx => ?_⟩⟩
    have := h0.cells (g := g) rfl j x hx
    rw [addr_add', Nat.zero_add] at this
    exact this

/-- What is appended: the cells that a slice reaches, if it reaches any. -/
def SrcAt (w : World) (a : Option Addr) (m : Nat) (news : List Value) : Prop := (a = none → m = 0) ∧ ∀ ad, a = some ad → ∀ j u, news[j]? = some u → w.cell? (ad.add j) = some u
theorem NmsAt.src {w : World} {lo B : Nat} {l : List ByteArray} {a : Option Addr} (h : NmsAt w lo B l a) : SrcAt w a l.length (l.map .string) := by
  rcases h with rfl | ⟨b, rfl, h2, h3, h4⟩
  · exact ⟨fun _ => rfl, fun ad _ j u hu => by simp at hu⟩
  · refine ⟨fun h => (by cases h), fun ad e j u hu => ?_⟩
    cases e
    rw [List.getElem?_map] at hu
    obtain ⟨x, hx, rfl⟩ := Option.map_eq_some_iff.1 hu
    rw [addr_add', Nat.zero_add]
    exact h4 j x hx
theorem SgsAt.src {w : World} {lo B : Nat} {l : List (ByteArray × Int)} {a : Option Addr} (h : SgsAt w lo B l a) : SrcAt w a l.length (l.flatMap fun x => [Value.string x.1, .int .i64 x.2]) := by
  rcases h with rfl | ⟨b, rfl, h2, h3, h4⟩
  · exact ⟨fun _ => rfl, fun ad _ j u hu => by simp at hu⟩
  · refine ⟨fun h => (by cases h), fun ad e j u hu => ?_⟩
    cases e
    rw [addr_add', Nat.zero_add]
    exact h4 j u hu
/-- A new block of just these cells. -/
theorem src_new (w : World) (cs : List Value) (t : TypeId) (m : Nat) : SrcAt (w.alloc (.cells cs.toArray t)) (some ⟨w.heap.size, 0, none⟩) m cs := by
  refine ⟨fun h => (by cases h), fun ad e j u hu => ?_⟩
  cases e
  rw [addr_add', World.cell?_alloc_new]
  simpa using hu
theorem run_append_nil {P : Program} (w : World) (base : Nat) (t ty e : TypeId) (i : TypeInfo) (size : Nat) (ht : P.underlying t = some (.slice e)) (hi : P.info? e = some i)
    (v : Value) (n : Nat) (xs : List Value) (hown : w.ownsRow base e size v n xs) (c : Nat) : (Builtin.append_ #[t, t] ty #[v, .slice none 0 c]).run P w = .ok v w := by
  rcases hown.2 with ⟨rfl, rfl⟩ | ⟨g, cap, cur, rfl, _, _, hnc, _⟩
  · simp [Builtin.append_, run_underlying ht, sizeOf, typeInfo, hi, Builtin.lenOf, Builtin.firstCells]
  · simp [Builtin.append_, run_underlying ht, sizeOf, typeInfo, hi, Builtin.lenOf, Builtin.firstCells, hnc, storeCells]
theorem wpList_append_nil {P : Program} {w : World} {ops : Array Oper} {rest : List Oper} {o : Oper} {a : Act} {Q : Exit → Act → World → Prop} (hgd : o.guard = none) (s x : Operand) (t : TypeId)
    (ho : o.op = .call { callee := .builtin .append, args := #[s, x], argTypes := #[t, t] })
    (base : Nat) (e : TypeId) (i : TypeInfo) (size : Nat) (ht : P.underlying t = some (.slice e)) (hi : P.info? e = some i)
    (v : Value) (n : Nat) (xs : List Value) (hs : a.eval s = v) (hown : w.ownsRow base e size v n xs) (c : Nat) (hx : a.eval x = .slice none 0 c)
    (h : wpList P ops Q rest (a.put o.dst v) w) : wpList P ops Q (o :: rest) a w := by
  refine wpList_plain hgd fun K hK => ?_
  have hrun := run_append_nil (P := P) w base t o.type e i size ht hi v n xs hown c
  unfold Oper.wp
  simp [execOp, ho, resolve, invoke, builtin, hs, hx, hrun, Result.andThen]
  exact hK _ _ h
/-- Appending to an own row what lies anywhere, or nothing. -/
theorem wpList_append_src {P : Program} {w : World} {ops : Array Oper} {rest : List Oper} {o : Oper} {a : Act} {Q : Exit → Act → World → Prop} (hgd : o.guard = none) (s x : Operand) (t : TypeId)
    (ho : o.op = .call { callee := .builtin .append, args := #[s, x], argTypes := #[t, t] })
    (base : Nat) (e : TypeId) (i : TypeInfo) (z : Value) (size bytes : Nat) (ht : P.underlying t = some (.slice e)) (hi : P.info? e = some i) (hz : i.zero = some z)
    (hsize : i.size = size) (hby : i.bytes = bytes) (hzs : z.cells.size = size) (hsz : 0 < size)
    (v : Value) (n : Nat) (xs : List Value) (hs : a.eval s = v) (hown : w.ownsRow base e size v n xs)
    (ad : Option Addr) (m c : Nat) (news : List Value) (hx : a.eval x = .slice ad m c) (hl : news.length = m * size) (hsrc : SrcAt w ad m news) (h1 : ∀ u ∈ news, u.oneCell' = true)
    (h63 : n + m ≤ maxLen) (hbytes : (n + m) * bytes ≤ 140737488355328) (hbase : base ≤ w.heap.size)
    (h : ∀ v' w', w'.ownsRow base e size v' (n + m) (xs ++ news) → w.grownBy w' v.ownBlock → wpList P ops Q rest (a.put o.dst v') w') : wpList P ops Q (o :: rest) a w := by
  cases ad with
  | none =>
    obtain rfl := hsrc.1 rfl
    obtain rfl : news = [] := List.length_eq_zero_iff.1 (by omega)
    refine wpList_append_nil hgd s x t ho base e i size ht hi v n xs hs hown c hx ?_
    exact h v w (by simpa using hown) ⟨rfl, rfl, rfl, Nat.le_refl _, fun _ _ _ => rfl⟩
  | some ad => exact wpList_append_own _ hgd s x t ho base e i z size bytes ht hi hz hsize hby hzs hsz v n xs hs hown ad m c news hx hl (hsrc.2 ad rfl) h1 h63 hbytes hbase (fun v' w' h2 h3 _ => h v' w' h2 h3)

/-! ### Scopes -/
structure ScD where
  vs : List ByteArray
  ls : List ByteArray
  gs : List (ByteArray × Int)
def ScD.At (w : World) (lo B K : Nat) (d : ScD) (cs : List Value) : Prop :=
  ∃ va la ga vc lc gc, cs = [.slice va d.vs.length vc, .slice la d.ls.length lc, .slice ga d.gs.length gc] ∧ NmsAt w lo B d.vs va ∧ NmsAt w lo B d.ls la ∧ SgsAt w lo B d.gs ga ∧ d.vs.length ≤ K ∧ d.ls.length ≤ K ∧ d.gs.length ≤ K
theorem ScD.At.keep {w w' : World} {lo B K : Nat} {d : ScD} {cs : List Value} (h : ScD.At w lo B K d cs) (hk : Kept lo B w w') : ScD.At w' lo B K d cs := by
  obtain ⟨va, la, ga, vc, lc, gc, h0, h1, h2, h3, h4⟩ := h
  exact ⟨va, la, ga, vc, lc, gc, h0, h1.keep hk, h2.keep hk, h3.keep hk, h4⟩
theorem ScD.At.mono {w : World} {lo B B' K K' : Nat} {d : ScD} {cs : List Value} (h : ScD.At w lo B K d cs) (hB : B ≤ B') (hK : K ≤ K') : ScD.At w lo B' K' d cs := by
  obtain ⟨va, la, ga, vc, lc, gc, h0, h1, h2, h3, h4, h5, h6⟩ := h
  exact ⟨va, la, ga, vc, lc, gc, h0, h1.mono hB, h2.mono hB, h3.mono hB, by omega, by omega, by omega⟩
theorem ScD.At.len {w : World} {lo B K : Nat} {d : ScD} {cs : List Value} (h : ScD.At w lo B K d cs) : cs.length = 3 := by
  obtain ⟨_, _, _, _, _, _, rfl, _⟩ := h; rfl
theorem ScD.At.nil (w : World) (lo B K : Nat) : ScD.At w lo B K ⟨[], [], []⟩ [.slice none 0 0, .slice none 0 0, .slice none 0 0] := ⟨none, none, none, 0, 0, 0, rfl, .inl rfl, .inl rfl, .inl rfl, Nat.zero_le _, Nat.zero_le _, Nat.zero_le _⟩
end Go.Proofs.YtfegnmbdgdjkgaaGreat
