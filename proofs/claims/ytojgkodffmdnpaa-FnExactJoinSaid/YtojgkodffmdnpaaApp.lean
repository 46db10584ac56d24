/- Rows of the call's own to which something is appended; no condition: nothing of the program is named here. -/
import Derived.Laws.AppendOwnNone
import Derived.OwnWalk
import Derived.Test.YtojgkodffmdnpaaFacts
namespace Go.Proofs.Ytojgkodffmdnpaa
open Go.RowKit

theorem own_nil_lt (hi : Nat) : ∀ g, (Value.slice none 0 0).ownBlock = some g → g < hi := fun g h => by simp [Value.ownBlock] at h
theorem TO.nil_ (E : TypeId) (w : World) (lo hi : Nat) : TO E w lo hi (.slice none 0 0) [] := ⟨World.ownsRow_nil _ _ _ _, own_nil_lt _⟩
theorem PO.nil_ (E : TypeId) (w : World) (lo hi : Nat) : PO E w lo hi (.slice none 0 0) [] := ⟨World.ownsRow_nil _ _ _ _, own_nil_lt _⟩
theorem SO.nil_ (E EF : TypeId) (w : World) (lo hi : Nat) : SO E EF w lo hi (.slice none 0 0) [] := SO.mk_ (vs := []) (World.ownsRow_nil _ _ _ _) (own_nil_lt _) FRows.nil
theorem TO.made_ (E : TypeId) (w : World) : TO E (w.alloc (.cells #[] E)) w.heap.size (w.alloc (.cells #[] E)).heap.size (.slice (some ⟨w.heap.size, 0, none⟩) 0 0) [] :=
  have h := World.ownsRow_made (e := E) (size := 1) w #[] 0 (Nat.le_refl _) (by unfold maxLen; omega) rfl
  ⟨h, fun g hg => (h.lt g hg).2⟩
theorem PO.made_ (E : TypeId) (w : World) : PO E (w.alloc (.cells #[] E)) w.heap.size (w.alloc (.cells #[] E)).heap.size (.slice (some ⟨w.heap.size, 0, none⟩) 0 0) [] :=
  have h := World.ownsRow_made (e := E) (size := 2) w #[] 0 (Nat.le_refl _) (by unfold maxLen; omega) rfl
  ⟨h, fun g hg => (h.lt g hg).2⟩
theorem SO.made_ (E EF : TypeId) (w : World) : SO E EF (w.alloc (.cells #[] EF)) w.heap.size (w.alloc (.cells #[] EF)).heap.size (.slice (some ⟨w.heap.size, 0, none⟩) 0 0) [] :=
  have h := World.ownsRow_made (e := EF) (size := 2) w #[] 0 (Nat.le_refl _) (by unfold maxLen; omega) rfl
  SO.mk_ (vs := []) h (fun g hg => (h.lt g hg).2) FRows.nil
theorem PO.mono {E : TypeId} {w : World} {lo hi lo' hi' : Nat} {v : Value} {L : List (ByteArray × ByteArray)} (h : PO E w lo hi v L) (h1 : lo' ≤ lo) (h2 : hi ≤ hi') : PO E w lo' hi' v L :=
  ⟨h.1.mono h1, fun g hg => by have := h.2 g hg; omega⟩
theorem TO.app {E : TypeId} {w : World} {lo : Nat} {v : Value} {L M : List ByteArray} (h : w.ownsRow lo E 1 v (L.length + M.length) (L.map Value.string ++ M.map Value.string)) : TO E w lo w.heap.size v (L ++ M) :=
  ⟨by simpa using h, fun g hg => (h.lt g hg).2⟩
theorem TO.snoc {E : TypeId} {w : World} {lo : Nat} {v : Value} {L : List ByteArray} {s : ByteArray} (h : w.ownsRow lo E 1 v (L.length + 1) (L.map Value.string ++ [.string s])) : TO E w lo w.heap.size v (L ++ [s]) :=
  TO.app (M := [s]) h
theorem PO.app {E : TypeId} {w : World} {lo : Nat} {v : Value} {L M : List (ByteArray × ByteArray)} (h : w.ownsRow lo E 2 v (L.length + M.length) (flatP L ++ flatP M)) : PO E w lo w.heap.size v (L ++ M) :=
  ⟨by rw [List.length_append, flatP_append]; exact h, fun g hg => (h.lt g hg).2⟩
theorem PO.snoc {E : TypeId} {w : World} {lo : Nat} {v : Value} {L : List (ByteArray × ByteArray)} {a b : ByteArray} (h : w.ownsRow lo E 2 v (L.length + 1) (flatP L ++ [.string a, .string b])) : PO E w lo w.heap.size v (L ++ [(a, b)]) :=
  PO.app (M := [(a, b)]) h
theorem TX.none_ {w : World} {lo hi n cap : Nat} {L : List ByteArray} (h : TX w lo hi (.slice none n cap) L) : L = [] := by
  cases L with
  | nil => rfl
  | cons y r => obtain ⟨b, off, e, -⟩ := h.at (k := 0) (by simp); cases e
theorem SL.none_ {α : Type} {R : World → Nat → Nat → List Value → α → Prop} {size : Nat} {w : World} {lo hi n cap : Nat} {L : List α} (h : SL R size w lo hi (.slice none n cap) L) : L = [] := by
  cases L with
  | nil => rfl
  | cons y r => obtain ⟨b, off, cs, e, -⟩ := SL.at h (k := 0) (by simp); cases e
/-- rows of different element types lie in different blocks -/
theorem row_ne {w : World} {lo lo' size size' n n' : Nat} {E E' : TypeId} {v v' : Value} {xs xs' : List Value} (h : w.ownsRow lo E size v n xs) (h' : w.ownsRow lo' E' size' v' n' xs') (hne : E ≠ E') : v.ownBlock = none ∨ v.ownBlock ≠ v'.ownBlock := by
  rcases h.2 with ⟨rfl, _⟩ | ⟨g, cap, cur, rfl, hb, hg, _⟩
  · exact .inl rfl
  · right
    intro e
    rcases h'.2 with ⟨rfl, _⟩ | ⟨g', cap', cur', rfl, hb', hg', _⟩
    · simp [Value.ownBlock] at e
    · simp only [Value.ownBlock, Option.some.injEq] at e
      subst e
      rw [hg] at hg'
      injection hg' with e1
      injection e1 with _ e2
      exact hne e2
theorem FRows.grown {E EF : TypeId} {w w' : World} {lo lo' hi n : Nat} {v : Value} {xs vs : List Value} {L : List FactV} (h : FRows E w lo hi vs L) (hne : E ≠ EF) (hown : w.ownsRow lo' EF 2 v n xs) (hg : w.grownBy w' v.ownBlock) : FRows E w' lo hi vs L :=
  ⟨h.1, fun i a b => ⟨(h.2.1 i a b).1.kept hg (row_ne (h.2.1 i a b).1 hown hne), (h.2.1 i a b).2⟩, h.2.2⟩
theorem SO.snoc {E EF : TypeId} {w w' : World} {lo hi mid : Nat} {v v' av : Value} {vs : List Value} {L : List FactV} {f : FactV} (hne : E ≠ EF) (hr : FRows E w lo mid vs L) (hv : TO E w mid hi av f.args) (h1 : lo ≤ mid) (h2 : mid ≤ hi)
    (hown : w.ownsRow lo EF 2 v L.length (flatF L vs)) (hown' : w'.ownsRow lo EF 2 v' (L.length + 1) (flatF L vs ++ [.string f.rel, av])) (hg : w.grownBy w' v.ownBlock) (hhi : hi ≤ w'.heap.size) : SO E EF w' lo w'.heap.size v' (L ++ [f]) := by
  have hr2 := ((hr.snoc hv h1 h2).grown hne hown hg).mono (Nat.le_refl _) hhi
  exact SO.mk_ (by rw [flatF_snoc _ _ _ _ hr.1]; simpa using hown') (fun g hg => (hown'.lt g hg).2) hr2
theorem SO.app1 {E EF : TypeId} {w1 w2 : World} {lo mid hi : Nat} {v v' av : Value} {vs : List Value} {L : List FactV} {f : FactV} {o : Obj} (hne : E ≠ EF) (hS : FRows E w1 lo mid vs L) (hown : w1.ownsRow lo EF 2 v L.length (flatF L vs)) (hv : TO E w1 mid hi av f.args) (h1 : lo ≤ mid) (h2 : mid ≤ hi) (h3 : hi ≤ w1.heap.size)
    (hown' : w2.ownsRow lo EF 2 v' (L.length + 1) (flatF L vs ++ [.string f.rel, av])) (hg : (w1.alloc o).grownBy w2 v.ownBlock) : SO E EF w2 lo w2.heap.size v' (L ++ [f]) := by
  have hz : (w1.alloc o).heap.size = w1.heap.size + 1 := by simp
  have hs := hg.size
  exact SO.snoc (w := w1.alloc o) hne (hS.keep (Stays.of_below (Up.al1 w1 o) (by omega))) (hv.keep (Stays.of_below (Up.al1 w1 o) h3)) h1 h2 (hown.alloc o) hown' hg (by omega)
theorem SO.rows {E EF : TypeId} {w : World} {lo hi : Nat} {v : Value} {L : List FactV} (h : SO E EF w lo hi v L) : ∃ vs, FRows E w lo hi vs L ∧ w.ownsRow lo EF 2 v L.length (flatF L vs) := by
  obtain ⟨vs, hl, ho, hh, ht, hd⟩ := h; exact ⟨vs, ⟨hl, ht, hd⟩, ho⟩
theorem FRows.set {E : TypeId} {w w' : World} {lo hi i : Nat} {vs : List Value} {L : List FactV} {f : FactV} (h : FRows E w lo hi vs L) (hi' : i < vs.length) (hg : w.grownBy w' vs[i].ownBlock) (hv : TO E w' lo hi vs[i] f.args) : FRows E w' lo hi vs (L.set i f) := by
  refine ⟨by simp [h.1], fun j a b => ?_, h.2.2⟩
  by_cases e : j = i
  · subst e
    simpa using hv
  · rw [List.getElem_set_ne (by omega)]
    have hj := h.2.1 j (by simpa using a) b
    refine ⟨hj.1.kept hg ?_, hj.2⟩
    cases hb : vs[j].ownBlock with
    | none => exact .inl rfl
    | some g =>
      right
      intro e2
      exact e (h.2.2 j i g b hi' hb e2.symm)
theorem flatF_set (L : List FactV) (vs : List Value) (i : Nat) (r : ByteArray) (l : List ByteArray) (hv : vs.length = L.length) : (flatF L vs).set (i * 2) (.string r) = flatF (L.set i ⟨r, l⟩) vs := by
  induction L generalizing i vs with
  | nil => cases vs <;> simp [flatF]
  | cons p q ih =>
    cases vs with
    | nil => simp at hv
    | cons v s =>
      cases i with
      | zero => rfl
      | succ i => rw [show (i + 1) * 2 = i * 2 + 1 + 1 by omega]; simp only [flatF, List.set_cons_succ]; rw [ih s i (by simpa using hv)]
theorem flatF_args (L : List FactV) (vs : List Value) (i : Nat) (f : FactV) (h : i < L.length) (e : f.rel = L[i].rel) : flatF (L.set i f) vs = flatF L vs := by
  induction L generalizing i vs with
  | nil => simp at h
  | cons p q ih =>
    cases vs with
    | nil => cases i <;> rfl
    | cons v s =>
      cases i with
      | zero => simp only [List.set_cons_zero, flatF]; rw [e]; rfl
      | succ i => simp only [List.set_cons_succ, flatF]; rw [ih s i (by simpa using h) e]
/-- what is there stays behind an append to another row of the call's own -/
theorem Up.grown {a w w' : World} {row : Option Nat} (h : Up a w) (hg : w.grownBy w' row) (hr : ∀ g, row = some g → a.heap.size ≤ g) : Up a w' :=
  (show Below a.heap.size a w from h).grown hg h.size hr
theorem keepFr {w w' : World} {a : Addr} {v : Value} (hb : Up w w') (hc : w.cell? a = some v) (h : w.frozen? a = false) : w'.frozen? a = false :=
  (World.frozen?_of_block (hb.block a.block (World.block_lt_of_cell? w a hc))).trans h
theorem news1 {w : World} {g : Nat} {t : TypeId} {x : Value} (h : Blk w g t #[x]) : ∀ j u, [x][j]? = some u → w.cell? ((⟨g, 0, none⟩ : Addr).add j) = some u := by
  intro j u hj
  match j, hj with
  | 0, hj => simp at hj; subst hj; simpa [Addr.add] using h.cell 0
theorem news2 {w : World} {g : Nat} {t : TypeId} {x y : Value} (h : Blk w g t #[x, y]) : ∀ j u, [x, y][j]? = some u → w.cell? ((⟨g, 0, none⟩ : Addr).add j) = some u := by
  intro j u hj
  match j, hj with
  | 0, hj => simp at hj; subst hj; simpa [Addr.add] using h.cell 0
  | 1, hj => simp at hj; subst hj; simpa [Addr.add] using h.cell 1
theorem one1 {x : Value} (h : x.oneCell' = true) : ∀ u ∈ [x], u.oneCell' = true := by intro u hu; simp at hu; subst hu; exact h
theorem one2 {x y : Value} (h : x.oneCell' = true) (h' : y.oneCell' = true) : ∀ u ∈ [x, y], u.oneCell' = true := by intro u hu; simp at hu; rcases hu with rfl | rfl <;> assumption
theorem one_strs (L : List ByteArray) : ∀ u ∈ L.map Value.string, u.oneCell' = true := by intro u hu; simp at hu; obtain ⟨s, -, rfl⟩ := hu; rfl
theorem one_flatP (L : List (ByteArray × ByteArray)) : ∀ u ∈ flatP L, u.oneCell' = true := by
  induction L with
  | nil => simp [flatP]
  | cons p r ih => intro u hu; simp only [flatP, List.mem_cons] at hu; rcases hu with rfl | rfl | hu <;> first | rfl | exact ih u hu
/-- the cells of a slice of texts, of pairs, as an append reads them -/
theorem TX.news {w : World} {lo hi n cap : Nat} {ad : Addr} {L : List ByteArray} (h : TX w lo hi (.slice (some ad) n cap) L) : ∀ j u, (L.map Value.string)[j]? = some u → w.cell? (ad.add j) = some u := by
  intro j u hj
  rw [List.getElem?_map] at hj
  have hjl : j < L.length := by
    by_cases hl : j < L.length
    · exact hl
    · rw [List.getElem?_eq_none (by omega)] at hj; simp at hj
  obtain ⟨b, off, e, -, -, hc⟩ := h.at hjl
  injection e with e
  subst e
  rw [List.getElem?_eq_getElem hjl] at hj
  simp at hj
  subst hj
  have ea : (⟨b, off, none⟩ : Addr).add j = ⟨b, off + j, none⟩ := by unfold Addr.add; split <;> simp_all
  rw [ea, hc]
theorem SP.news {w : World} {lo hi n cap : Nat} {ad : Addr} {L : List (ByteArray × ByteArray)} (h : SP w lo hi (.slice (some ad) n cap) L) : ∀ j u, (flatP L)[j]? = some u → w.cell? (ad.add j) = some u := by
  intro j u hj
  have hjl : j / 2 < L.length := by
    by_cases hl : j < (flatP L).length
    · rw [flatP_len] at hl; omega
    · rw [List.getElem?_eq_none (by omega)] at hj; simp at hj
  obtain ⟨b, off, e, hc0, hc1⟩ := SP.at h hjl
  injection e with e
  subst e
  have ea : ∀ k, (⟨b, off, none⟩ : Addr).add k = ⟨b, off + k, none⟩ := fun k => by unfold Addr.add; split <;> simp_all
  rw [ea]
  rcases Nat.mod_two_eq_zero_or_one j with hm | hm
  · obtain ⟨i, rfl⟩ : ∃ i, j = i * 2 := ⟨j / 2, by omega⟩
    have e2 : i * 2 / 2 = i := by omega
    simp only [e2] at hc0 hjl
    rw [flatP_get0 L i hjl] at hj
    rw [hc0, hj]
  · obtain ⟨i, rfl⟩ : ∃ i, j = i * 2 + 1 := ⟨j / 2, by omega⟩
    have e2 : (i * 2 + 1) / 2 = i := by omega
    simp only [e2] at hc1 hjl
    rw [flatP_get1 L i hjl] at hj
    rw [← Nat.add_assoc, hc1, hj]
theorem run_app_none {P : Program} (w : World) (base : Nat) (t ty e : TypeId) (i : TypeInfo) (size : Nat) (ht : P.underlying t = some (.slice e)) (hi : P.info? e = some i)
    (v : Value) (n : Nat) (xs : List Value) (hown : w.ownsRow base e size v n xs) (c : Nat) : (Builtin.append_ #[t, t] ty #[v, .slice none 0 c]).run P w = .ok v w := by
  rcases hown.2 with ⟨rfl, rfl⟩ | ⟨g, cap, cur, rfl, -, -, hnc, -⟩
  · simp [Builtin.append_, run_underlying ht, sizeOf, typeInfo, hi, Builtin.lenOf, Builtin.firstCells]
  · simp [Builtin.append_, run_underlying ht, sizeOf, typeInfo, hi, Builtin.lenOf, Builtin.firstCells, hnc, storeCells]
/-- nothing is appended: the source is nil, whatever capacity is told of it -/
theorem wpList_app_none {P : Program} {w : World} {ops : Array Oper} {rest : List Oper} {o : Oper} {a : Act} {Q : Exit → Act → World → Prop} (hgd : o.guard = none) (s x : Operand) (t : TypeId)
    (ho : o.op = .call { callee := .builtin .append, args := #[s, x], argTypes := #[t, t] })
    (base : Nat) (e : TypeId) (i : TypeInfo) (size : Nat) (ht : P.underlying t = some (.slice e)) (hi : P.info? e = some i)
    (v : Value) (n : Nat) (xs : List Value) (hs : a.eval s = v) (hown : w.ownsRow base e size v n xs) (c : Nat) (hx : a.eval x = .slice none 0 c)
    (h : wpList P ops Q rest (a.put o.dst v) w) : wpList P ops Q (o :: rest) a w := by
  refine wpList_plain hgd fun K hK => ?_
  have hrun := run_app_none (P := P) w base t o.type e i size ht hi v n xs hown c
  unfold Oper.wp
  simp [execOp, ho, resolve, invoke, builtin, hs, hx, hrun, Result.andThen]
  exact hK _ _ h
end Go.Proofs.Ytojgkodffmdnpaa
