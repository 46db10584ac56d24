/- Words for what lies in memory behind a value (facts, patterns, pairs, conditions, actions, rules, and slices of these), that they stay while other blocks turn, and how an argument that can be read as data is opened into them; no condition. -/
import Derived.ProofKit
import Derived.OpenShut
import Derived.ShutString
import Derived.ChangeOld
import Derived.Below
import Derived.Deep.Slices
import Derived.Lib.SmallJoins
import Derived.Deep.Onto
import Derived.Test.YtojgkodffmdnpaaBase
namespace Go.Proofs.Ytojgkodffmdnpaa
open Go.RowKit Go.ChangeShapes Go.WideShapes Go.Deep Go.OpenShut

def Stays (w w' : World) (lo hi : Nat) : Prop := ∀ b, lo ≤ b → b < hi → w'.heap[b]? = w.heap[b]?
theorem Stays.of_below {w w' : World} {B hi lo : Nat} (hb : Below B w w') (h : hi ≤ B) : Stays w w' lo hi := fun b _ h2 => hb.block b (by omega)
theorem Stays.cell {w w' : World} {lo hi b o : Nat} (h : Stays w w' lo hi) (h1 : lo ≤ b) (h2 : b < hi) : w'.cell? ⟨b, o, none⟩ = w.cell? ⟨b, o, none⟩ := World.cell?_of_block (w := w) (h b h1 h2)

theorem TO.keep {E : TypeId} {w w' : World} {lo hi : Nat} {v : Value} {L : List ByteArray} (h : TO E w lo hi v L) (hk : Stays w w' lo hi) : TO E w' lo hi v L := by
  obtain ⟨⟨hl, h⟩, hh⟩ := h
  refine ⟨⟨hl, ?_⟩, hh⟩
  rcases h with h | ⟨g, cap, cur, rfl, hb, hg, r⟩
  · exact .inl h
  · exact .inr ⟨g, cap, cur, rfl, hb, (hk g hb (hh g rfl)).trans hg, r⟩
theorem TO.mono {E : TypeId} {w : World} {lo hi lo' hi' : Nat} {v : Value} {L : List ByteArray} (h : TO E w lo hi v L) (h1 : lo' ≤ lo) (h2 : hi ≤ hi') : TO E w lo' hi' v L :=
  ⟨h.1.mono h1, fun g hg => by have := h.2 g hg; omega⟩
/- a block of the call's own, known whole -/
def Blk (w : World) (g : Nat) (t : TypeId) (cs : Array Value) : Prop := w.heap[g]? = some (.cells cs t (0, 0))
theorem Blk.new (w : World) (t : TypeId) (cs : Array Value) : Blk (w.alloc (.cells cs t)) w.heap.size t cs := heap_alloc_new w _
theorem Blk.alloc {w : World} {g : Nat} {t : TypeId} {cs : Array Value} (h : Blk w g t cs) (o : Obj) : Blk (w.alloc o) g t cs :=
  (Below.heap_alloc w o g (Array.getElem?_eq_some_iff.1 h).1).trans h
theorem Blk.below {w w' : World} {B g : Nat} {t : TypeId} {cs : Array Value} (h : Blk w g t cs) (hb : Below B w w') (hg : g < B) : Blk w' g t cs := (hb.block g hg).trans h
theorem Blk.cell {w : World} {g : Nat} {t : TypeId} {cs : Array Value} (h : Blk w g t cs) (i : Nat) : w.cell? ⟨g, i, none⟩ = cs[i]? := cell_of_row w g i cs t (0, 0) h
theorem Blk.frozen {w : World} {g : Nat} {t : TypeId} {cs : Array Value} (h : Blk w g t cs) (i : Nat) : w.frozen? ⟨g, i, none⟩ = false := frozen_of_row w g i cs t h
theorem Blk.set_ {w : World} {g : Nat} {t : TypeId} {cs : Array Value} (h : Blk w g t cs) (i : Nat) (u : Value) : Blk (w.setCell ⟨g, i, none⟩ u) g t (cs.setIfInBounds i u) := heap_setCell_same w g i cs t u h
theorem Blk.far {w : World} {g : Nat} {t : TypeId} {cs : Array Value} (h : Blk w g t cs) {p : Addr} (hp : g ≠ p.block) (u : Value) : Blk (w.setCell p u) g t cs := (Below.heap_setCell w p u g hp).trans h
theorem Blk.cell0 {w : World} {g : Nat} {t : TypeId} {a b : Value} (h : Blk w g t #[a, b]) : w.cell? ⟨g, 0, none⟩ = some a := by rw [h.cell]; rfl
theorem Blk.cell1 {w : World} {g : Nat} {t : TypeId} {a b : Value} (h : Blk w g t #[a, b]) : w.cell? ⟨g, 1, none⟩ = some b := by rw [h.cell]; rfl
theorem Stays.setCell {w w' : World} {lo hi : Nat} (h : Stays w w' lo hi) {p : Addr} (hp : p.block < lo ∨ hi ≤ p.block) (u : Value) : Stays w (w'.setCell p u) lo hi := fun b h1 h2 => by
  rw [Below.heap_setCell _ _ _ _ (by omega)]; exact h b h1 h2
theorem Stays.refl (w : World) (lo hi : Nat) : Stays w w lo hi := fun _ _ _ => rfl

/- a slice whose elements are rows of 'size' cells -/
def SL {α : Type} (R : World → Nat → Nat → List Value → α → Prop) (size : Nat) (w : World) (lo hi : Nat) (v : Value) (L : List α) : Prop :=
  ∃ a cap, v = .slice a L.length cap ∧ L.length ≤ cap ∧ cap ≤ maxLen ∧
    (0 < L.length → ∃ b off, a = some ⟨b, off, none⟩ ∧ lo ≤ b ∧ b < hi ∧ ∀ i (h : i < L.length), ∃ cs, cs.length = size ∧
      (∀ j, j < size → w.cell? ⟨b, off + (i * size + j), none⟩ = cs[j]?) ∧ R w lo hi cs L[i])
section
variable {α : Type} {R : World → Nat → Nat → List Value → α → Prop} {size : Nat} {w w' : World} {lo hi : Nat} {v : Value} {L : List α}
theorem SL.len (h : SL R size w lo hi v L) : L.length ≤ 9223372036854775807 := by
  obtain ⟨a, cap, e1, e2, e3, h4⟩ := h
  unfold maxLen at e3
  omega
theorem SL.keep (h : SL R size w lo hi v L) (hk : Stays w w' lo hi) (hR : ∀ cs x, x ∈ L → R w lo hi cs x → R w' lo hi cs x) : SL R size w' lo hi v L := by
  obtain ⟨a, cap, e1, e2, e3, h4⟩ := h
  refine ⟨a, cap, e1, e2, e3, fun hp => ?_⟩
  obtain ⟨b, off, e, hl, hh, hc⟩ := h4 hp
  refine ⟨b, off, e, hl, hh, fun i hi => ?_⟩
  obtain ⟨cs, hcl, hcc, hr⟩ := hc i hi
  exact ⟨cs, hcl, fun j hj => (hk.cell hl hh).trans (hcc j hj), hR cs _ (List.getElem_mem hi) hr⟩
theorem SL.mono {lo' hi' : Nat} (h : SL R size w lo hi v L) (h1 : lo' ≤ lo) (h2 : hi ≤ hi') (hR : ∀ cs x, R w lo hi cs x → R w lo' hi' cs x) : SL R size w lo' hi' v L := by
  obtain ⟨a, cap, e1, e2, e3, h4⟩ := h
  refine ⟨a, cap, e1, e2, e3, fun hp => ?_⟩
  obtain ⟨b, off, e, hl, hh, hc⟩ := h4 hp
  refine ⟨b, off, e, by omega, by omega, fun i hi => ?_⟩
  obtain ⟨cs, hcl, hcc, hr⟩ := hc i hi
  exact ⟨cs, hcl, hcc, hR cs _ hr⟩
end

/- pairs, facts (and patterns), conditions, actions, rules -/
structure FactV where
  rel : ByteArray
  args : List ByteArray
structure CondV where
  kind : Int
  pat : FactV
  left : ByteArray
  right : ByteArray
structure ActV where
  kind : Int
  pat : FactV
structure RuleV where
  name : ByteArray
  prio : Int
  ifs : List CondV
  thens : List ActV
instance : Inhabited FactV := ⟨⟨ByteArray.empty, []⟩⟩
instance : Inhabited CondV := ⟨⟨0, default, ByteArray.empty, ByteArray.empty⟩⟩
instance : Inhabited ActV := ⟨⟨0, default⟩⟩
instance : Inhabited RuleV := ⟨⟨ByteArray.empty, 0, [], []⟩⟩

def PairC (_ : World) (_ _ : Nat) (cs : List Value) (p : ByteArray × ByteArray) : Prop := cs = [.string p.1, .string p.2]
def FactC (w : World) (lo hi : Nat) (cs : List Value) (f : FactV) : Prop := ∃ av, cs = [.string f.rel, av] ∧ TX w lo hi av f.args
def CondC (w : World) (lo hi : Nat) (cs : List Value) (x : CondV) : Prop := ∃ av, cs = [.int .i64 x.kind, .string x.pat.rel, av, .string x.left, .string x.right] ∧ TX w lo hi av x.pat.args
def ActC (w : World) (lo hi : Nat) (cs : List Value) (x : ActV) : Prop := ∃ av, cs = [.int .i64 x.kind, .string x.pat.rel, av] ∧ TX w lo hi av x.pat.args
def RuleC (w : World) (lo hi : Nat) (cs : List Value) (x : RuleV) : Prop := ∃ iv tv, cs = [.string x.name, .int .i64 x.prio, iv, tv] ∧ SL CondC 5 w lo hi iv x.ifs ∧ SL ActC 3 w lo hi tv x.thens
section
variable {w w' : World} {lo hi : Nat} {cs : List Value}
theorem PairC.keep {p : ByteArray × ByteArray} (h : PairC w lo hi cs p) : PairC w' lo hi cs p := h
theorem FactC.keep {f : FactV} (h : FactC w lo hi cs f) (hk : Stays w w' lo hi) : FactC w' lo hi cs f := by obtain ⟨av, e, ht⟩ := h; exact ⟨av, e, ht.keep hk⟩
theorem CondC.keep {x : CondV} (h : CondC w lo hi cs x) (hk : Stays w w' lo hi) : CondC w' lo hi cs x := by obtain ⟨av, e, ht⟩ := h; exact ⟨av, e, ht.keep hk⟩
theorem ActC.keep {x : ActV} (h : ActC w lo hi cs x) (hk : Stays w w' lo hi) : ActC w' lo hi cs x := by obtain ⟨av, e, ht⟩ := h; exact ⟨av, e, ht.keep hk⟩
theorem RuleC.keep {x : RuleV} (h : RuleC w lo hi cs x) (hk : Stays w w' lo hi) : RuleC w' lo hi cs x := by
  obtain ⟨iv, tv, e, h1, h2⟩ := h
  exact ⟨iv, tv, e, h1.keep hk fun _ _ _ h => h.keep hk, h2.keep hk fun _ _ _ h => h.keep hk⟩
theorem SLP.keep {v : Value} {L : List (ByteArray × ByteArray)} (h : SL PairC 2 w lo hi v L) (hk : Stays w w' lo hi) : SL PairC 2 w' lo hi v L := h.keep hk fun _ _ _ h => h
theorem SLF.keep {v : Value} {L : List FactV} (h : SL FactC 2 w lo hi v L) (hk : Stays w w' lo hi) : SL FactC 2 w' lo hi v L := h.keep hk fun _ _ _ h => h.keep hk
theorem SLC.keep {v : Value} {L : List CondV} (h : SL CondC 5 w lo hi v L) (hk : Stays w w' lo hi) : SL CondC 5 w' lo hi v L := h.keep hk fun _ _ _ h => h.keep hk
theorem SLA.keep {v : Value} {L : List ActV} (h : SL ActC 3 w lo hi v L) (hk : Stays w w' lo hi) : SL ActC 3 w' lo hi v L := h.keep hk fun _ _ _ h => h.keep hk
theorem SLR.keep {v : Value} {L : List RuleV} (h : SL RuleC 4 w lo hi v L) (hk : Stays w w' lo hi) : SL RuleC 4 w' lo hi v L := h.keep hk fun _ _ _ h => h.keep hk
end

/- what fits a machine -/
def okS (s : ByteArray) : Prop := s.size ≤ 9223372036854775807
def okT (L : List ByteArray) : Prop := ∀ s ∈ L, s.size ≤ 9223372036854775807
def okP (p : ByteArray × ByteArray) : Prop := okS p.1 ∧ okS p.2
def okF (f : FactV) : Prop := okS f.rel ∧ okT f.args
def okI (n : Int) : Prop := -9223372036854775808 ≤ n ∧ n ≤ 9223372036854775807
def okC (x : CondV) : Prop := okI x.kind ∧ okF x.pat ∧ okS x.left ∧ okS x.right
def okA (x : ActV) : Prop := okI x.kind ∧ okF x.pat
def okR (x : RuleV) : Prop := okS x.name ∧ okI x.prio ∧ (∀ c ∈ x.ifs, okC c) ∧ (∀ a ∈ x.thens, okA a)

/- arguments, opened -/
section
variable {H : Type} {enc : TypeId × Value → H} {P : Program} {w : World} {spare : Nat → Bool} {held : Bool}
theorem rd_str {t : TypeId} {n : Nat} {cs : List Value} {x : DataW H × List MemPlace} (ht : P.underlying t = some .string) (h : DataW.trod enc P w 0 spare held n t cs = some x) : ∃ s, cs = [.string s] ∧ okS s := by
  obtain ⟨s, rfl, -, hs⟩ := DataW.trod_string ht h
  unfold maxLen at hs
  exact ⟨s, rfl, by unfold okS; omega⟩
theorem rd_int {t : TypeId} {n : Nat} {cs : List Value} {x : DataW H × List MemPlace} (ht : P.underlying t = some (.int .i64)) (h : DataW.trod enc P w 0 spare held n t cs = some x) : ∃ z, cs = [.int .i64 z] ∧ okI z := by
  obtain ⟨z, rfl, -, hs⟩ := DataW.trod_int ht h
  have hb := bounds_i64 hs
  exact ⟨z, rfl, hb⟩
theorem rd_SL {α : Type} [Inhabited α] {R : World → Nat → Nat → List Value → α → Prop} {ok : α → Prop} {t e : TypeId} {size n : Nat} {cs : List Value} {x : DataW H × List MemPlace}
    (ht : P.underlying t = some (.slice e)) (hsz : P.cellsOf e = size) (h0 : 0 < size)
    (hR : ∀ n cs x, DataW.trod enc P w 0 spare held n e cs = some x → ∃ a, R w 0 w.heap.size cs a ∧ ok a)
    (h : DataW.trod enc P w 0 spare held n t cs = some x) : ∃ v L, cs = [v] ∧ SL R size w 0 w.heap.size v L ∧ ∀ a ∈ L, ok a := by
  rcases open_slice ht h with ⟨rfl, -⟩ | ⟨ad, len, cap, m, n', D, Pl, rfl, -, hl, hm, hmm, -, hi⟩
  · exact ⟨_, [], rfl, ⟨none, 0, rfl, Nat.le_refl _, by simp [maxLen], by simp⟩, by simp⟩
  · have hlm : len ≤ m := by rw [hmm]; split <;> omega
    have each : ∀ i, i < len → ∃ p : List Value × α, p.1.length = size ∧ (∀ j, j < size → w.cell? ((ad.add (i * size)).add j) = p.1[j]?) ∧ R w 0 w.heap.size p.1 p.2 ∧ ok p.2 := by
      intro i hi'
      obtain ⟨cs', hc, ht'⟩ := hi i (by omega)
      rw [hsz] at hc
      obtain ⟨-, hcl, hat⟩ := World.cells?_some hc
      obtain ⟨a, hr, ho⟩ := hR _ _ _ ht'
      exact ⟨(cs', a), hcl, hat, hr, ho⟩
    obtain ⟨f, hf⟩ := choose_lt each
    refine ⟨_, (List.range len).map fun i => (f i).2, rfl, ⟨some ad, cap, by simp, by simpa using hl, hm, fun hp => ?_⟩, ?_⟩
    · simp only [List.length_map, List.length_range] at hp ⊢
      obtain ⟨b, off, spot⟩ := ad
      have h00 := (hf 0 hp).2.1 0 h0
      rw [List.getElem?_eq_getElem (by have := (hf 0 hp).1; omega)] at h00
      have hspot : spot = none := by simpa [Addr.add] using World.cell?_spot h00
      subst hspot
      have hlt : b < w.heap.size := by
        have := World.block_lt_of_cell? w _ h00
        simpa [Addr.add_lit] using this
      refine ⟨b, off, rfl, Nat.zero_le _, hlt, fun i hi' => ⟨(f i).1, (hf i hi').1, fun j hj => ?_, ?_⟩⟩
      · have := (hf i hi').2.1 j hj
        rw [Addr.add_lit, Addr.add_lit, Nat.add_assoc] at this
        exact this
      · simpa using (hf i hi').2.2.1
    · intro a ha
      obtain ⟨i, hi', rfl⟩ := List.mem_map.1 ha
      exact (hf i (List.mem_range.1 hi')).2.2.2
theorem rd_TX {t e : TypeId} {n : Nat} {cs : List Value} {x : DataW H × List MemPlace} (ht : P.underlying t = some (.slice e)) (he : P.underlying e = some .string) (hsz : P.cellsOf e = 1)
    (h : DataW.trod enc P w 0 spare held n t cs = some x) : ∃ v L, cs = [v] ∧ TX w 0 w.heap.size v L ∧ okT L := by
  obtain ⟨v, L, e1, ⟨a, cap, e2, e3, e4, h4⟩, hok⟩ := rd_SL (R := fun _ _ _ cs (s : ByteArray) => cs = [.string s]) (ok := okS) ht hsz (by omega) (fun n cs x hx => rd_str he hx) h
  refine ⟨v, L, e1, ⟨a, cap, e2, e3, e4, fun hp => ?_⟩, hok⟩
  obtain ⟨b, off, e, hl, hh, hc⟩ := h4 hp
  refine ⟨b, off, e, hl, hh, fun i hi => ?_⟩
  obtain ⟨cs', hcl, hcc, rfl⟩ := hc i hi
  have := hcc 0 (by omega)
  simpa using this
theorem rd_fields {t : TypeId} {fs : Array Field} {n : Nat} {cs : List Value} {x : DataW H × List MemPlace} (ht : P.underlying t = some (.struct fs)) (h : DataW.trod enc P w 0 spare held n t cs = some x) :
    cs.length = P.cellsOf t ∧ ∃ m, ∀ (i : Nat) (f : Field) (o k : Nat), fs[i]? = some f → f.offset = o → P.cellsOf f.type = k → ∃ x, DataW.trod enc P w 0 spare held m f.type ((cs.drop o).take k) = some x := by
  obtain ⟨xs, m, -, -, hl, hxl, hf⟩ := DataW.trod_struct ht h
  refine ⟨hl, m, fun i f o k hi ho hk => ?_⟩
  have h1 := hf i f hi
  have hi' : i < fs.size := (Array.getElem?_eq_some_iff.1 hi).1
  rw [List.getElem?_eq_getElem (by omega), ho, hk] at h1
  exact ⟨_, h1⟩
/-- a pair of texts -/
theorem rd_pair {t : TypeId} {fs : Array Field} {f0 f1 : Field} {n : Nat} {cs : List Value} {x : DataW H × List MemPlace} (ht : P.underlying t = some (.struct fs)) (hC : P.cellsOf t = 2)
    (h0 : fs[0]? = some f0) (o0 : f0.offset = 0) (k0 : P.cellsOf f0.type = 1) (u0 : P.underlying f0.type = some .string)
    (h1 : fs[1]? = some f1) (o1 : f1.offset = 1) (k1 : P.cellsOf f1.type = 1) (u1 : P.underlying f1.type = some .string)
    (h : DataW.trod enc P w 0 spare held n t cs = some x) : ∃ p, PairC w 0 w.heap.size cs p ∧ okP p := by
  obtain ⟨hl, m, hm⟩ := rd_fields ht h
  rw [hC] at hl
  match cs, hl with
  | [c0, c1], _ =>
    obtain ⟨x0, g0⟩ := hm 0 f0 0 1 h0 o0 k0
    obtain ⟨x1, g1⟩ := hm 1 f1 1 1 h1 o1 k1
    obtain ⟨s, e, hs⟩ := rd_str u0 g0
    obtain ⟨s', e', hs'⟩ := rd_str u1 g1
    simp at e e'
    exact ⟨(s, s'), by rw [e, e']; rfl, hs, hs'⟩
/-- a fact or a pattern: 'ts' is the type of its Args -/
theorem rd_fact {t : TypeId} {fs : Array Field} {f0 f1 : Field} {es : TypeId} {n : Nat} {cs : List Value} {x : DataW H × List MemPlace} (ht : P.underlying t = some (.struct fs)) (hC : P.cellsOf t = 2)
    (h0 : fs[0]? = some f0) (o0 : f0.offset = 0) (k0 : P.cellsOf f0.type = 1) (u0 : P.underlying f0.type = some .string)
    (h1 : fs[1]? = some f1) (o1 : f1.offset = 1) (k1 : P.cellsOf f1.type = 1) (u1 : P.underlying f1.type = some (.slice es)) (ue : P.underlying es = some .string) (ke : P.cellsOf es = 1)
    (h : DataW.trod enc P w 0 spare held n t cs = some x) : ∃ f, FactC w 0 w.heap.size cs f ∧ okF f := by
  obtain ⟨hl, m, hm⟩ := rd_fields ht h
  rw [hC] at hl
  match cs, hl with
  | [c0, c1], _ =>
    obtain ⟨x0, g0⟩ := hm 0 f0 0 1 h0 o0 k0
    obtain ⟨x1, g1⟩ := hm 1 f1 1 1 h1 o1 k1
    obtain ⟨s, e, hs⟩ := rd_str u0 g0
    obtain ⟨v, L, e', hv, hL⟩ := rd_TX u1 ue ke g1
    simp at e e'
    exact ⟨⟨s, L⟩, ⟨v, by rw [e, e'], hv⟩, hs, hL⟩
/-- an action: its kind and its pattern -/
theorem rd_act {t : TypeId} {fs : Array Field} {f0 f1 : Field} {n : Nat} {cs : List Value} {x : DataW H × List MemPlace} (ht : P.underlying t = some (.struct fs)) (hC : P.cellsOf t = 3)
    (h0 : fs[0]? = some f0) (o0 : f0.offset = 0) (k0 : P.cellsOf f0.type = 1) (u0 : P.underlying f0.type = some (.int .i64))
    (h1 : fs[1]? = some f1) (o1 : f1.offset = 1) (k1 : P.cellsOf f1.type = 2)
    (hF : ∀ n cs x, DataW.trod enc P w 0 spare held n f1.type cs = some x → ∃ f, FactC w 0 w.heap.size cs f ∧ okF f)
    (h : DataW.trod enc P w 0 spare held n t cs = some x) : ∃ a, ActC w 0 w.heap.size cs a ∧ okA a := by
  obtain ⟨hl, m, hm⟩ := rd_fields ht h
  rw [hC] at hl
  match cs, hl with
  | [c0, c1, c2], _ =>
    obtain ⟨x0, g0⟩ := hm 0 f0 0 1 h0 o0 k0
    obtain ⟨x1, g1⟩ := hm 1 f1 1 2 h1 o1 k1
    obtain ⟨z, e, hz⟩ := rd_int u0 g0
    obtain ⟨f, ⟨av, e', hf⟩, hok⟩ := hF _ _ _ g1
    simp at e e'
    exact ⟨⟨z, f⟩, ⟨av, by rw [e, e'.1, e'.2], hf⟩, hz, hok⟩
/-- a condition -/
theorem rd_cond {t : TypeId} {fs : Array Field} {f0 f1 f2 f3 : Field} {n : Nat} {cs : List Value} {x : DataW H × List MemPlace} (ht : P.underlying t = some (.struct fs)) (hC : P.cellsOf t = 5)
    (h0 : fs[0]? = some f0) (o0 : f0.offset = 0) (k0 : P.cellsOf f0.type = 1) (u0 : P.underlying f0.type = some (.int .i64))
    (h1 : fs[1]? = some f1) (o1 : f1.offset = 1) (k1 : P.cellsOf f1.type = 2)
    (hF : ∀ n cs x, DataW.trod enc P w 0 spare held n f1.type cs = some x → ∃ f, FactC w 0 w.heap.size cs f ∧ okF f)
    (h2 : fs[2]? = some f2) (o2 : f2.offset = 3) (k2 : P.cellsOf f2.type = 1) (u2 : P.underlying f2.type = some .string)
    (h3 : fs[3]? = some f3) (o3 : f3.offset = 4) (k3 : P.cellsOf f3.type = 1) (u3 : P.underlying f3.type = some .string)
    (h : DataW.trod enc P w 0 spare held n t cs = some x) : ∃ a, CondC w 0 w.heap.size cs a ∧ okC a := by
  obtain ⟨hl, m, hm⟩ := rd_fields ht h
  rw [hC] at hl
  match cs, hl with
  | [c0, c1, c2, c3, c4], _ =>
    obtain ⟨x0, g0⟩ := hm 0 f0 0 1 h0 o0 k0
    obtain ⟨x1, g1⟩ := hm 1 f1 1 2 h1 o1 k1
    obtain ⟨x2, g2⟩ := hm 2 f2 3 1 h2 o2 k2
    obtain ⟨x3, g3⟩ := hm 3 f3 4 1 h3 o3 k3
    obtain ⟨z, e, hz⟩ := rd_int u0 g0
    obtain ⟨f, ⟨av, e', hf⟩, hok⟩ := hF _ _ _ g1
    obtain ⟨l, el, hl⟩ := rd_str u2 g2
    obtain ⟨r, er, hr⟩ := rd_str u3 g3
    simp at e e' el er
    exact ⟨⟨z, f, l, r⟩, ⟨av, by rw [e, e'.1, e'.2, el, er], hf⟩, hz, hok, hl, hr⟩
/-- a rule -/
theorem rd_rule {t : TypeId} {fs : Array Field} {f0 f1 f2 f3 : Field} {n : Nat} {cs : List Value} {x : DataW H × List MemPlace} (ht : P.underlying t = some (.struct fs)) (hC : P.cellsOf t = 4)
    (h0 : fs[0]? = some f0) (o0 : f0.offset = 0) (k0 : P.cellsOf f0.type = 1) (u0 : P.underlying f0.type = some .string)
    (h1 : fs[1]? = some f1) (o1 : f1.offset = 1) (k1 : P.cellsOf f1.type = 1) (u1 : P.underlying f1.type = some (.int .i64))
    (h2 : fs[2]? = some f2) (o2 : f2.offset = 2) (k2 : P.cellsOf f2.type = 1)
    (h3 : fs[3]? = some f3) (o3 : f3.offset = 3) (k3 : P.cellsOf f3.type = 1)
    (hI : ∀ n cs x, DataW.trod enc P w 0 spare held n f2.type cs = some x → ∃ v L, cs = [v] ∧ SL CondC 5 w 0 w.heap.size v L ∧ ∀ a ∈ L, okC a)
    (hT : ∀ n cs x, DataW.trod enc P w 0 spare held n f3.type cs = some x → ∃ v L, cs = [v] ∧ SL ActC 3 w 0 w.heap.size v L ∧ ∀ a ∈ L, okA a)
    (h : DataW.trod enc P w 0 spare held n t cs = some x) : ∃ a, RuleC w 0 w.heap.size cs a ∧ okR a := by
  obtain ⟨hl, m, hm⟩ := rd_fields ht h
  rw [hC] at hl
  match cs, hl with
  | [c0, c1, c2, c3], _ =>
    obtain ⟨x0, g0⟩ := hm 0 f0 0 1 h0 o0 k0
    obtain ⟨x1, g1⟩ := hm 1 f1 1 1 h1 o1 k1
    obtain ⟨x2, g2⟩ := hm 2 f2 2 1 h2 o2 k2
    obtain ⟨x3, g3⟩ := hm 3 f3 3 1 h3 o3 k3
    obtain ⟨s, e, hs⟩ := rd_str u0 g0
    obtain ⟨z, e', hz⟩ := rd_int u1 g1
    obtain ⟨iv, I, ei, hi, hI'⟩ := hI _ _ _ g2
    obtain ⟨tv, T, et, ht', hT'⟩ := hT _ _ _ g3
    simp at e e' ei et
    exact ⟨⟨s, z, I, T⟩, ⟨iv, tv, by rw [e, e', ei, et], hi, ht'⟩, hs, hz, hI', hT'⟩
end

/- the arguments of a law -/
def AG {α : Type} (R : World → Nat → Nat → List Value → α → Prop) (w : World) (lo hi : Nat) (v : Value) (x : α) : Prop := ∃ cs : List Value, v = .agg cs.toArray ∧ R w lo hi cs x
section
variable {H : Type} {enc : TypeId × Value → H} {P : Program} {w : World} {spare : Nat → Bool} {held : Bool} {r : Reach} {b0 : Nat} {t : TypeId} {v : Value} {d : DataW H} {p : List MemPlace}
theorem op_str (ht : P.underlying t = some .string) (hv : Value.okWide P w r b0 t v) (h : DataW.Trod enc P w 0 spare held t v d p) : ∃ s, v = .string s ∧ okS s := by
  obtain ⟨s, rfl, -, -, hs⟩ := Go.ChangeMaps.open_string ht hv h
  unfold maxLen at hs
  exact ⟨s, rfl, by unfold okS; omega⟩
theorem op_int (ht : P.underlying t = some (.int .i64)) (hv : Value.okWide P w r b0 t v) (h : DataW.Trod enc P w 0 spare held t v d p) : ∃ z, v = .int .i64 z ∧ okI z := by
  obtain ⟨z, rfl, -, -, hs⟩ := open_int ht hv h
  exact ⟨z, rfl, bounds_i64 hs⟩
theorem op_agg {α : Type} {R : World → Nat → Nat → List Value → α → Prop} {ok : α → Prop} {fs : Array Field} (ht : P.underlying t = some (.struct fs)) (hv : Value.okWide P w r b0 t v) (h : DataW.Trod enc P w 0 spare held t v d p)
    (hR : ∀ n cs x, DataW.trod enc P w 0 spare held n t cs = some x → ∃ a, R w 0 w.heap.size cs a ∧ ok a) : ∃ a, AG R w 0 w.heap.size v a ∧ ok a := by
  obtain ⟨cs, rfl, -⟩ := okWide_struct ht hv
  obtain ⟨n, hn⟩ := h
  obtain ⟨a, hr, ho⟩ := hR _ _ _ hn
  exact ⟨a, ⟨cs.toList, by simp, hr⟩, ho⟩
theorem op_sl {α : Type} {S : World → Nat → Nat → Value → List α → Prop} {ok : List α → Prop} {e : TypeId} (ht : P.underlying t = some (.slice e)) (hv : Value.okWide P w r b0 t v) (h : DataW.Trod enc P w 0 spare held t v d p)
    (hR : ∀ n cs x, DataW.trod enc P w 0 spare held n t cs = some x → ∃ v L, cs = [v] ∧ S w 0 w.heap.size v L ∧ ok L) : ∃ L, S w 0 w.heap.size v L ∧ ok L := by
  obtain ⟨a, len, cap, rfl⟩ := okWide_slice ht hv
  obtain ⟨n, hn⟩ := h
  obtain ⟨v, L, e, hs, ho⟩ := hR _ _ _ hn
  simp [Value.cells] at e
  subst e
  exact ⟨L, hs, ho⟩
end
end Go.Proofs.Ytojgkodffmdnpaa
