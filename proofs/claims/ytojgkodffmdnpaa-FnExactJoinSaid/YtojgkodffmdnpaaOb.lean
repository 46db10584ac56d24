/- Things in memory with the blocks between which they lie, that they stay while the world grows or while other blocks turn, and what the call itself made, read again; no condition: nothing of the program is named here. -/
import Derived.Test.YtojgkodffmdnpaaRep
namespace Go.Proofs.Ytojgkodffmdnpaa
open Go.RowKit

/- worlds that have only grown; worlds in which the blocks from lo to hi have turned, besides -/
abbrev Up (w w' : World) : Prop := Below w.heap.size w w'
theorem Up.tr {a b c : World} (h : Up a b) (k : Up b c) : Up a c := h.trans (k.mono h.size)
theorem Up.rf (w : World) : Up w w := Below.refl _ _
theorem Up.dr {a b : World} (h : Up a b) : Up a b.drew := h.drew
theorem Up.al {a b : World} (h : Up a b) (o : Obj) : Up a (b.alloc o) := h.alloc h.size o
theorem Up.al1 (w : World) (o : Obj) : Up w (w.alloc o) := (Up.rf w).al o
structure Chg (lo hi : Nat) (w w' : World) : Prop where
  os : w'.os = w.os
  tape : w'.tape = w.tape
  output : w'.output = w.output
  size : w.heap.size ≤ w'.heap.size
  block : ∀ k, k < w.heap.size → k < lo ∨ hi ≤ k → w'.heap[k]? = w.heap[k]?
theorem Up.chg {w w' : World} (h : Up w w') (lo hi : Nat) : Chg lo hi w w' := ⟨h.os, h.tape, h.output, h.size, fun k hk _ => h.block k hk⟩
theorem Chg.tr {lo hi : Nat} {a b c : World} (h : Chg lo hi a b) (k : Chg lo hi b c) : Chg lo hi a c :=
  ⟨k.os.trans h.os, k.tape.trans h.tape, k.output.trans h.output, Nat.le_trans h.size k.size, fun i hi ho => (k.block i (by have := h.size; omega) ho).trans (h.block i hi ho)⟩
theorem Chg.up {lo hi : Nat} {a b c : World} (h : Chg lo hi a b) (k : Up b c) : Chg lo hi a c := h.tr (k.chg _ _)
theorem Chg.below {lo hi B : Nat} {a b c : World} (h0 : Below B a b) (h : Chg lo hi b c) (hl : B ≤ lo) (hB : B ≤ b.heap.size) : Below B a c :=
  ⟨h.os.trans h0.os, h.tape.trans h0.tape, h.output.trans h0.output, Nat.le_trans h0.size h.size, fun k hk => (h.block k (by omega) (.inl (by omega))).trans (h0.block k hk)⟩
theorem Chg.grown {lo hi : Nat} {w w' : World} {row : Option Nat} (h : w.grownBy w' row) (hr : ∀ g, row = some g → lo ≤ g ∧ g < hi) : Chg lo hi w w' :=
  ⟨h.os, h.tape, h.output, h.size, fun k hk ho => h.block k hk (fun e => by have := hr k e.symm; omega)⟩
theorem Chg.mono {lo hi lo' hi' : Nat} {w w' : World} (h : Chg lo hi w w') (h1 : lo' ≤ lo) (h2 : hi ≤ hi') : Chg lo' hi' w w' :=
  ⟨h.os, h.tape, h.output, h.size, fun k hk ho => h.block k hk (by omega)⟩
theorem Blk.up {w w' : World} {g : Nat} {t : TypeId} {cs : Array Value} (h : Blk w g t cs) (hb : Up w w') : Blk w' g t cs := h.below hb (Array.getElem?_eq_some_iff.1 h).1
theorem Blk.lt {w : World} {g : Nat} {t : TypeId} {cs : Array Value} (h : Blk w g t cs) : g < w.heap.size := (Array.getElem?_eq_some_iff.1 h).1
theorem Blk.chg {w w' : World} {lo hi g : Nat} {t : TypeId} {cs : Array Value} (h : Blk w g t cs) (hc : Chg lo hi w w') (ho : g < lo ∨ hi ≤ g) : Blk w' g t cs := (hc.block g h.lt ho).trans h

/-- a result that lies in a block of the call's own -/
theorem ret_cell {P : Program} {fn : Func} {R : Ending → World → Prop} {a : Act} {W : World} {p g : Nat} {ty t : TypeId} {cs : Array Value} (hr : fn.results = #[.cell p ty]) (hp : a.tmps.getD p undef = .pointer (some ⟨g, 0, none⟩))
    (hl : ∀ W, Blk W g t cs → (loadVar ty ⟨g, 0, none⟩).run P W = .ok (.agg cs) W) (hK : Blk W g t cs) (hd : a.defers = []) (hR : R (.returned (.agg cs)) W) : bodyPost P fn R .ret a W := by
  refine bodyPost_ret (v := .agg cs) ?_ hd hR
  have hp' : a.tmps[p]?.getD undef = .pointer (some ⟨g, 0, none⟩) := by simpa using hp
  simp only [results, hr]
  simp [hp', asAddr, hl W hK]

/- what lies between lo and hi -/
class Kp {α : Type} (R : World → Nat → Nat → Value → α → Prop) : Prop where
  keep : ∀ {w w' : World} {lo hi : Nat} {v : Value} {x : α}, R w lo hi v x → Stays w w' lo hi → R w' lo hi v x
def Ob {α : Type} (R : World → Nat → Nat → Value → α → Prop) (w : World) (lo hi : Nat) (v : Value) (x : α) : Prop := R w lo hi v x ∧ hi ≤ w.heap.size
section
variable {α : Type} {R : World → Nat → Nat → Value → α → Prop} [Kp R] {w w' : World} {lo hi lo' hi' : Nat} {v : Value} {x : α}
theorem Ob.up (h : Ob R w lo hi v x) (hb : Up w w') : Ob R w' lo hi v x := ⟨Kp.keep h.1 (Stays.of_below hb h.2), Nat.le_trans h.2 hb.size⟩
theorem Ob.dr (h : Ob R w lo hi v x) : Ob R w.drew lo hi v x := h.up (Up.rf w).dr
theorem Ob.chg (h : Ob R w lo hi v x) (hc : Chg lo' hi' w w') (ho : hi ≤ lo' ∨ hi' ≤ lo) : Ob R w' lo hi v x :=
  ⟨Kp.keep h.1 fun b h1 h2 => hc.block b (by have := h.2; omega) (by omega), Nat.le_trans h.2 hc.size⟩
end
instance : Kp TX := ⟨fun h hk => h.keep hk⟩
instance (E : TypeId) : Kp (TO E) := ⟨fun h hk => h.keep hk⟩
/- a struct by value -/
abbrev AF : World → Nat → Nat → Value → FactV → Prop := AG FactC
abbrev AC : World → Nat → Nat → Value → CondV → Prop := AG CondC
abbrev AA : World → Nat → Nat → Value → ActV → Prop := AG ActC
abbrev AR : World → Nat → Nat → Value → RuleV → Prop := AG RuleC
abbrev SP : World → Nat → Nat → Value → List (ByteArray × ByteArray) → Prop := SL PairC 2
abbrev SF : World → Nat → Nat → Value → List FactV → Prop := SL FactC 2
abbrev SR : World → Nat → Nat → Value → List RuleV → Prop := SL RuleC 4
instance : Kp AF := ⟨fun ⟨cs, e, h⟩ hk => ⟨cs, e, h.keep hk⟩⟩
instance : Kp AC := ⟨fun ⟨cs, e, h⟩ hk => ⟨cs, e, h.keep hk⟩⟩
instance : Kp AA := ⟨fun ⟨cs, e, h⟩ hk => ⟨cs, e, h.keep hk⟩⟩
instance : Kp AR := ⟨fun ⟨cs, e, h⟩ hk => ⟨cs, e, h.keep hk⟩⟩
instance : Kp SP := ⟨fun h hk => SLP.keep h hk⟩
instance : Kp SF := ⟨fun h hk => SLF.keep h hk⟩
instance : Kp SR := ⟨fun h hk => SLR.keep h hk⟩

/- what the call itself made -/
def FO (E : TypeId) (w : World) (lo hi : Nat) (v : Value) (f : FactV) : Prop := ∃ av, v = .agg #[.string f.rel, av] ∧ TO E w lo hi av f.args
def CO (E : TypeId) (w : World) (lo hi : Nat) (v : Value) (x : CondV) : Prop := ∃ av, v = .agg #[.int .i64 x.kind, .string x.pat.rel, av, .string x.left, .string x.right] ∧ TO E w lo hi av x.pat.args
def AO (E : TypeId) (w : World) (lo hi : Nat) (v : Value) (x : ActV) : Prop := ∃ av, v = .agg #[.int .i64 x.kind, .string x.pat.rel, av] ∧ TO E w lo hi av x.pat.args
instance (E : TypeId) : Kp (FO E) := ⟨fun ⟨av, e, h⟩ hk => ⟨av, e, h.keep hk⟩⟩
instance (E : TypeId) : Kp (CO E) := ⟨fun ⟨av, e, h⟩ hk => ⟨av, e, h.keep hk⟩⟩
instance (E : TypeId) : Kp (AO E) := ⟨fun ⟨av, e, h⟩ hk => ⟨av, e, h.keep hk⟩⟩
theorem FO.fa {E : TypeId} {w : World} {lo hi : Nat} {v : Value} {f : FactV} (h : FO E w lo hi v f) : AF w lo hi v f := by
  obtain ⟨av, rfl, h⟩ := h; exact ⟨[_, _], rfl, av, rfl, h.tx⟩
theorem CO.fa {E : TypeId} {w : World} {lo hi : Nat} {v : Value} {f : CondV} (h : CO E w lo hi v f) : AC w lo hi v f := by
  obtain ⟨av, rfl, h⟩ := h; exact ⟨[_, _, _, _, _], rfl, av, rfl, h.tx⟩
theorem AO.fa {E : TypeId} {w : World} {lo hi : Nat} {v : Value} {f : ActV} (h : AO E w lo hi v f) : AA w lo hi v f := by
  obtain ⟨av, rfl, h⟩ := h; exact ⟨[_, _, _], rfl, av, rfl, h.tx⟩
theorem FO.form {E : TypeId} {w : World} {lo hi : Nat} {v : Value} {f : FactV} (h : FO E w lo hi v f) : ∃ a cap, v = .agg #[.string f.rel, .slice a f.args.length cap] := by
  obtain ⟨av, rfl, h⟩ := h; obtain ⟨a, cap, rfl, -⟩ := h.tx; exact ⟨a, cap, rfl⟩
theorem CO.form {E : TypeId} {w : World} {lo hi : Nat} {v : Value} {x : CondV} (h : CO E w lo hi v x) : ∃ a cap, v = .agg #[.int .i64 x.kind, .string x.pat.rel, .slice a x.pat.args.length cap, .string x.left, .string x.right] := by
  obtain ⟨av, rfl, h⟩ := h; obtain ⟨a, cap, rfl, -⟩ := h.tx; exact ⟨a, cap, rfl⟩
theorem AO.form {E : TypeId} {w : World} {lo hi : Nat} {v : Value} {x : ActV} (h : AO E w lo hi v x) : ∃ a cap, v = .agg #[.int .i64 x.kind, .string x.pat.rel, .slice a x.pat.args.length cap] := by
  obtain ⟨av, rfl, h⟩ := h; obtain ⟨a, cap, rfl, -⟩ := h.tx; exact ⟨a, cap, rfl⟩
theorem AF.form {w : World} {lo hi : Nat} {v : Value} {f : FactV} (h : AF w lo hi v f) : ∃ a cap, v = .agg #[.string f.rel, .slice a f.args.length cap] := by
  obtain ⟨_, rfl, av, rfl, h⟩ := h; obtain ⟨a, cap, rfl, -⟩ := h; exact ⟨a, cap, rfl⟩
theorem AC.form {w : World} {lo hi : Nat} {v : Value} {x : CondV} (h : AC w lo hi v x) : ∃ a cap, v = .agg #[.int .i64 x.kind, .string x.pat.rel, .slice a x.pat.args.length cap, .string x.left, .string x.right] := by
  obtain ⟨_, rfl, av, rfl, h⟩ := h; obtain ⟨a, cap, rfl, -⟩ := h; exact ⟨a, cap, rfl⟩
theorem AA.form {w : World} {lo hi : Nat} {v : Value} {x : ActV} (h : AA w lo hi v x) : ∃ a cap, v = .agg #[.int .i64 x.kind, .string x.pat.rel, .slice a x.pat.args.length cap] := by
  obtain ⟨_, rfl, av, rfl, h⟩ := h; obtain ⟨a, cap, rfl, -⟩ := h; exact ⟨a, cap, rfl⟩
theorem TX.form {w : World} {lo hi : Nat} {v : Value} {L : List ByteArray} (h : TX w lo hi v L) : ∃ a cap, v = .slice a L.length cap := by obtain ⟨a, cap, rfl, -⟩ := h; exact ⟨a, cap, rfl⟩
theorem SL.form {α : Type} {R : World → Nat → Nat → List Value → α → Prop} {size : Nat} {w : World} {lo hi : Nat} {v : Value} {L : List α} (h : SL R size w lo hi v L) : ∃ a cap, v = .slice a L.length cap := by obtain ⟨a, cap, rfl, -⟩ := h; exact ⟨a, cap, rfl⟩

/- slices of the call's own whose elements are structs: pairs; facts, whose Args are rows of the call's own, no two of them the same -/
def flatP : List (ByteArray × ByteArray) → List Value
  | [] => []
  | p :: r => .string p.1 :: .string p.2 :: flatP r
def PO (E : TypeId) (w : World) (lo hi : Nat) (v : Value) (L : List (ByteArray × ByteArray)) : Prop := w.ownsRow lo E 2 v L.length (flatP L) ∧ ∀ g, v.ownBlock = some g → g < hi
theorem ownsRow_stays {w w' : World} {lo hi size n : Nat} {E : TypeId} {v : Value} {xs : List Value} (h : w.ownsRow lo E size v n xs) (hh : ∀ g, v.ownBlock = some g → g < hi) (hk : Stays w w' lo hi) : w'.ownsRow lo E size v n xs := by
  obtain ⟨hl, h⟩ := h
  refine ⟨hl, ?_⟩
  rcases h with h | ⟨g, cap, cur, rfl, hb, hg, r⟩
  · exact .inl h
  · exact .inr ⟨g, cap, cur, rfl, hb, (hk g hb (hh g rfl)).trans hg, r⟩
instance (E : TypeId) : Kp (PO E) := ⟨fun ⟨h, hh⟩ hk => ⟨ownsRow_stays h hh hk, hh⟩⟩
theorem flatP_len (L : List (ByteArray × ByteArray)) : (flatP L).length = L.length * 2 := by
  induction L with
  | nil => rfl
  | cons p r ih => simp [flatP, ih]; omega
theorem flatP_append (A B : List (ByteArray × ByteArray)) : flatP (A ++ B) = flatP A ++ flatP B := by
  induction A with
  | nil => rfl
  | cons p r ih => simp [flatP, ih]
theorem flatP_get0 (L : List (ByteArray × ByteArray)) (i : Nat) (h : i < L.length) : (flatP L)[i * 2]? = some (.string L[i].1) := by
  induction L generalizing i with
  | nil => simp at h
  | cons p r ih =>
    cases i with
    | zero => rfl
    | succ i => simp only [flatP, show (i + 1) * 2 = i * 2 + 1 + 1 by omega, List.getElem?_cons_succ, List.getElem_cons_succ]; exact ih i (by simpa using h)
theorem flatP_get1 (L : List (ByteArray × ByteArray)) (i : Nat) (h : i < L.length) : (flatP L)[i * 2 + 1]? = some (.string L[i].2) := by
  induction L generalizing i with
  | nil => simp at h
  | cons p r ih =>
    cases i with
    | zero => rfl
    | succ i => simp only [flatP, show (i + 1) * 2 + 1 = i * 2 + 1 + 1 + 1 by omega, List.getElem?_cons_succ, List.getElem_cons_succ]; exact ih i (by simpa using h)
/-- a row of the call's own, read as a slice of structs -/
theorem owns_sl {α : Type} {R : World → Nat → Nat → List Value → α → Prop} {size : Nat} {w : World} {lo hi : Nat} {E : TypeId} {v : Value} {L : List α} {xs : List Value} (h : w.ownsRow lo E size v L.length xs) (hh : ∀ g, v.ownBlock = some g → g < hi)
    (hR : ∀ i (hi' : i < L.length), ∃ cs : List Value, cs.length = size ∧ (∀ j, j < size → xs[i * size + j]? = cs[j]?) ∧ R w lo hi cs L[i]) : SL R size w lo hi v L := by
  have h' := h
  obtain ⟨hl, h⟩ := h
  rcases h with ⟨rfl, hn⟩ | ⟨g, cap, cur, rfl, hb, hg, hnc, hcm, hcs, htake⟩
  · exact ⟨none, 0, by rw [hn], by omega, by simp [maxLen], by omega⟩
  · refine ⟨_, cap, rfl, hnc, hcm, fun hp => ⟨g, 0, rfl, hb, hh g rfl, fun i hi' => ?_⟩⟩
    obtain ⟨cs, hcl, hcc, hr⟩ := hR i hi'
    refine ⟨cs, hcl, fun j hj => ?_, hr⟩
    rw [Nat.zero_add, h'.cellAt (i * size + j) (by have : (i + 1) * size ≤ L.length * size := Nat.mul_le_mul_right _ hi'; rw [Nat.add_mul] at this; omega), hcc j hj]
theorem PO.sp {E : TypeId} {w : World} {lo hi : Nat} {v : Value} {L : List (ByteArray × ByteArray)} (h : PO E w lo hi v L) : SP w lo hi v L :=
  owns_sl h.1 h.2 fun i hi => ⟨_, rfl, fun j hj => by
    match j, hj with
    | 0, _ => rw [Nat.add_zero, flatP_get0 L i hi]; rfl
    | 1, _ => rw [flatP_get1 L i hi]; rfl, rfl⟩
def flatF : List FactV → List Value → List Value
  | f :: r, v :: s => .string f.rel :: v :: flatF r s
  | _, _ => []
def rowB (v : Value) : Option Nat := v.ownBlock
def SO (E EF : TypeId) (w : World) (lo hi : Nat) (v : Value) (L : List FactV) : Prop :=
  ∃ vs : List Value, vs.length = L.length ∧ w.ownsRow lo EF 2 v L.length (flatF L vs) ∧ (∀ g, v.ownBlock = some g → g < hi) ∧
    (∀ i (h : i < L.length) (h' : i < vs.length), TO E w lo hi vs[i] L[i].args) ∧ (∀ i j g (h : i < vs.length) (h' : j < vs.length), vs[i].ownBlock = some g → vs[j].ownBlock = some g → i = j)
instance (E EF : TypeId) : Kp (SO E EF) := ⟨fun ⟨vs, hl, h, hh, ht, hd⟩ hk => ⟨vs, hl, ownsRow_stays h hh hk, hh, fun i h h' => (ht i h h').keep hk, hd⟩⟩
theorem flatF_len (L : List FactV) (vs : List Value) (h : vs.length = L.length) : (flatF L vs).length = L.length * 2 := by
  induction L generalizing vs with
  | nil => cases vs <;> rfl
  | cons f r ih =>
    cases vs with
    | nil => simp at h
    | cons v s => simp [flatF, ih s (by simpa using h)]; omega
theorem flatF_append (A B : List FactV) (vs us : List Value) (h : vs.length = A.length) : flatF (A ++ B) (vs ++ us) = flatF A vs ++ flatF B us := by
  induction A generalizing vs with
  | nil => obtain rfl : vs = [] := List.eq_nil_of_length_eq_zero h; rfl
  | cons f r ih =>
    cases vs with
    | nil => simp at h
    | cons v s => simp [flatF, ih s (by simpa using h)]
theorem flatF_get0 (L : List FactV) (vs : List Value) (i : Nat) (h : i < L.length) (hv : vs.length = L.length) : (flatF L vs)[i * 2]? = some (.string L[i].rel) := by
  induction L generalizing i vs with
  | nil => simp at h
  | cons p r ih =>
    cases vs with
    | nil => simp at hv
    | cons v s =>
      cases i with
      | zero => rfl
      | succ i => simp only [flatF, show (i + 1) * 2 = i * 2 + 1 + 1 by omega, List.getElem?_cons_succ, List.getElem_cons_succ]; exact ih s i (by simpa using h) (by simpa using hv)
theorem flatF_get1 (L : List FactV) (vs : List Value) (i : Nat) (h : i < L.length) (hv : vs.length = L.length) : (flatF L vs)[i * 2 + 1]? = vs[i]? := by
  induction L generalizing i vs with
  | nil => simp at h
  | cons p r ih =>
    cases vs with
    | nil => simp at hv
    | cons v s =>
      cases i with
      | zero => rfl
      | succ i => simp only [flatF, show (i + 1) * 2 + 1 = i * 2 + 1 + 1 + 1 by omega, List.getElem?_cons_succ]; exact ih s i (by simpa using h) (by simpa using hv)
theorem SO.sf {E EF : TypeId} {w : World} {lo hi : Nat} {v : Value} {L : List FactV} (h : SO E EF w lo hi v L) : SF w lo hi v L := by
  obtain ⟨vs, hl, h, hh, ht, -⟩ := h
  exact owns_sl h hh fun i hi => ⟨_, rfl, fun j hj => by
    match j, hj with
    | 0, _ => rw [Nat.add_zero, flatF_get0 L vs i hi hl]; rfl
    | 1, _ => rw [flatF_get1 L vs i hi hl, List.getElem?_eq_getElem (by omega)]; rfl, vs[i]'(by omega), rfl, (ht i hi (by omega)).tx⟩

/- element k of a slice, in the walk's spelling; the slice's own form besides -/
theorem TX.at {w : World} {lo hi n cap k : Nat} {a : Option Addr} {L : List ByteArray} (h : TX w lo hi (.slice a n cap) L) (hk : k < L.length) :
    ∃ b off, a = some ⟨b, off, none⟩ ∧ lo ≤ b ∧ b < hi ∧ w.cell? ⟨b, off + k, none⟩ = some (.string L[k]) := by
  obtain ⟨a', cap', e, -, -, hv⟩ := h
  injection e with e1 e2 e3
  subst e1
  obtain ⟨b, off, rfl, h1, h2, hc⟩ := hv (by omega)
  exact ⟨b, off, rfl, h1, h2, hc k hk⟩
theorem SL.at {α : Type} {R : World → Nat → Nat → List Value → α → Prop} {size : Nat} {w : World} {lo hi n cap k : Nat} {a : Option Addr} {L : List α} (h : SL R size w lo hi (.slice a n cap) L) (hk : k < L.length) :
    ∃ b off cs, a = some ⟨b, off, none⟩ ∧ lo ≤ b ∧ b < hi ∧ cs.length = size ∧ (∀ j, j < size → w.cell? ⟨b, off + (k * size + j), none⟩ = cs[j]?) ∧ R w lo hi cs L[k] := by
  obtain ⟨a', cap', e, -, -, hv⟩ := h
  injection e with e1 e2 e3
  subst e1
  obtain ⟨b, off, rfl, h1, h2, hc⟩ := hv (by omega)
  obtain ⟨cs, h3, h4, h5⟩ := hc k hk
  exact ⟨b, off, cs, rfl, h1, h2, h3, h4, h5⟩
theorem SP.at {w : World} {lo hi n cap k : Nat} {a : Option Addr} {L : List (ByteArray × ByteArray)} (h : SP w lo hi (.slice a n cap) L) (hk : k < L.length) :
    ∃ b off, a = some ⟨b, off, none⟩ ∧ w.cell? ⟨b, off + k * 2, none⟩ = some (.string L[k].1) ∧ w.cell? ⟨b, off + k * 2 + 1, none⟩ = some (.string L[k].2) := by
  obtain ⟨b, off, cs, rfl, -, -, -, h4, rfl⟩ := SL.at h hk
  exact ⟨b, off, rfl, h4 0 (by omega), h4 1 (by omega)⟩
theorem SF.at {w : World} {lo hi n cap k : Nat} {a : Option Addr} {L : List FactV} (h : SF w lo hi (.slice a n cap) L) (hk : k < L.length) :
    ∃ b off d c, a = some ⟨b, off, none⟩ ∧ w.cell? ⟨b, off + k * 2, none⟩ = some (.string L[k].rel) ∧ w.cell? ⟨b, off + k * 2 + 1, none⟩ = some (.slice d L[k].args.length c) ∧
      AF w lo hi (.agg #[.string L[k].rel, .slice d L[k].args.length c]) L[k] := by
  obtain ⟨b, off, cs, rfl, -, -, -, h4, av, rfl, h5⟩ := SL.at h hk
  obtain ⟨d, c, rfl⟩ := h5.form
  exact ⟨b, off, d, c, rfl, h4 0 (by omega), h4 1 (by omega), [_, _], rfl, _, rfl, h5⟩
theorem SC.at {w : World} {lo hi n cap k : Nat} {a : Option Addr} {L : List CondV} (h : SL CondC 5 w lo hi (.slice a n cap) L) (hk : k < L.length) :
    ∃ b off d c, a = some ⟨b, off, none⟩ ∧ w.cell? ⟨b, off + k * 5, none⟩ = some (.int .i64 L[k].kind) ∧ w.cell? ⟨b, off + k * 5 + 1, none⟩ = some (.string L[k].pat.rel) ∧ w.cell? ⟨b, off + k * 5 + 2, none⟩ = some (.slice d L[k].pat.args.length c) ∧
      w.cell? ⟨b, off + k * 5 + 3, none⟩ = some (.string L[k].left) ∧ w.cell? ⟨b, off + k * 5 + 4, none⟩ = some (.string L[k].right) ∧
      AC w lo hi (.agg #[.int .i64 L[k].kind, .string L[k].pat.rel, .slice d L[k].pat.args.length c, .string L[k].left, .string L[k].right]) L[k] := by
  obtain ⟨b, off, cs, rfl, -, -, -, h4, av, rfl, h5⟩ := SL.at h hk
  obtain ⟨d, c, rfl⟩ := h5.form
  exact ⟨b, off, d, c, rfl, h4 0 (by omega), h4 1 (by omega), h4 2 (by omega), h4 3 (by omega), h4 4 (by omega), [_, _, _, _, _], rfl, _, rfl, h5⟩
theorem SA.at {w : World} {lo hi n cap k : Nat} {a : Option Addr} {L : List ActV} (h : SL ActC 3 w lo hi (.slice a n cap) L) (hk : k < L.length) :
    ∃ b off d c, a = some ⟨b, off, none⟩ ∧ w.cell? ⟨b, off + k * 3, none⟩ = some (.int .i64 L[k].kind) ∧ w.cell? ⟨b, off + k * 3 + 1, none⟩ = some (.string L[k].pat.rel) ∧ w.cell? ⟨b, off + k * 3 + 2, none⟩ = some (.slice d L[k].pat.args.length c) ∧
      AA w lo hi (.agg #[.int .i64 L[k].kind, .string L[k].pat.rel, .slice d L[k].pat.args.length c]) L[k] := by
  obtain ⟨b, off, cs, rfl, -, -, -, h4, av, rfl, h5⟩ := SL.at h hk
  obtain ⟨d, c, rfl⟩ := h5.form
  exact ⟨b, off, d, c, rfl, h4 0 (by omega), h4 1 (by omega), h4 2 (by omega), [_, _, _], rfl, _, rfl, h5⟩

/- the same, as things with their blocks -/
section
variable {E EF : TypeId} {w : World} {lo hi : Nat} {v : Value}
theorem Ob.tx {L : List ByteArray} (h : Ob (TO E) w lo hi v L) : Ob TX w lo hi v L := ⟨h.1.tx, h.2⟩
theorem Ob.af {f : FactV} (h : Ob (FO E) w lo hi v f) : Ob AF w lo hi v f := ⟨h.1.fa, h.2⟩
theorem Ob.ac {x : CondV} (h : Ob (CO E) w lo hi v x) : Ob AC w lo hi v x := ⟨h.1.fa, h.2⟩
theorem Ob.aa {x : ActV} (h : Ob (AO E) w lo hi v x) : Ob AA w lo hi v x := ⟨h.1.fa, h.2⟩
theorem Ob.sp {L : List (ByteArray × ByteArray)} (h : Ob (PO E) w lo hi v L) : Ob SP w lo hi v L := ⟨h.1.sp, h.2⟩
theorem Ob.sf {L : List FactV} (h : Ob (SO E EF) w lo hi v L) : Ob SF w lo hi v L := ⟨h.1.sf, h.2⟩
end
end Go.Proofs.Ytojgkodffmdnpaa
