/- Plain words for what lies in memory (slices of texts, pairs, facts), and small lemmas on bytes and lists; no condition: nothing of the program is named here. -/
import Derived.WalkKit
import Derived.WalkSpells
import Derived.WalkLawsBesides
import Derived.Lib.Hide
import Derived.Deep.QuietTactic
import Derived.BigQuiet
import Derived.Deep.RegionHeld3
import Derived.Deep.DrawnRows
import Derived.Deep.AppendLies
namespace Go.Proofs.Ytojgkodffmdnpaa
open Go.RowKit

theorem ret_bool {a b : Bool} (h : a = b) : Ending.returned (.bool a) = .returned (.bool b) := by rw [h]
theorem ret_int {a b : Int} (h : a = b) : Ending.returned (.int .i64 a) = .returned (.int .i64 b) := by rw [h]
theorem ret_str {a b : ByteArray} (h : a = b) : Ending.returned (.string a) = .returned (.string b) := by rw [h]
theorem byte_lt (c : UInt8) : (c.toNat : Int) < 256 := by have := c.toNat_lt; omega

/- bytes of a text, one after the other -/
theorem take_snoc (s : ByteArray) (k : Nat) (h : k < s.size) : s.data.toList.take (k + 1) = s.data.toList.take k ++ [s[k]] := by
  rw [List.take_succ_eq_append_getElem (by simpa using h)]; rfl
theorem take_all_true (s : ByteArray) (k : Nat) (h : k < s.size) (p : UInt8 → Bool) (h1 : (s.data.toList.take k).all p = true) (h2 : p s[k] = true) :
    (s.data.toList.take (k+1)).all p = true := by rw [take_snoc s k h]; simp_all
theorem take_all_false (s : ByteArray) (k : Nat) (h : k < s.size) (p : UInt8 → Bool) (h2 : p s[k] = false) : s.data.toList.all p = false := by
  rw [List.all_eq_false]; exact ⟨s[k], by rw [ByteArray.getElem_eq_getElem_data]; simp, by simp [h2]⟩
theorem take_all_end (s : ByteArray) (k : Nat) (h : s.size ≤ k) (p : UInt8 → Bool) (h1 : (s.data.toList.take k).all p = true) :
    (s.data.toList).all p = true := by rwa [List.take_of_length_le (by simpa using h)] at h1

/- atoms -/
def inB (x a b : Int) : Bool := decide (a ≤ x) && decide (x ≤ b)
def atomCh (c : UInt8) : Bool := inB c.toNat 97 122 || inB c.toNat 48 57
def isAtomB (s : ByteArray) : Bool := inB s.size 1 8 && s.data.toList.all atomCh
theorem atomCh_t (c : UInt8) (h : atomCh c = true) : (¬ (c.toNat : Int) < 97 ∧ ¬ 122 < (c.toNat : Int)) ∨ (¬ (c.toNat : Int) < 48 ∧ ¬ 57 < (c.toNat : Int)) := by
  simp [atomCh, inB] at h; omega
theorem atomCh_f (c : UInt8) (h : ¬ atomCh c = true) : ((c.toNat : Int) < 97 ∨ 122 < (c.toNat : Int)) ∧ ((c.toNat : Int) < 48 ∨ 57 < (c.toNat : Int)) := by
  simp [atomCh, inB] at h; omega

def isNameB (s : ByteArray) : Bool := isAtomB s && (match s.data.toList with | c :: _ => decide (97 ≤ (c.toNat : Int)) | [] => false)
def isVarB (s : ByteArray) : Bool := decide (1 < s.size) && (match s.data.toList with | c :: _ => decide ((c.toNat : Int) = 63) | [] => false) && isAtomB (s.extract 1 s.size)
def isTermB (s : ByteArray) : Bool := isAtomB s || isVarB s
theorem isAtomB_size {s : ByteArray} (h : isAtomB s = true) : 0 < s.size ∧ s.size ≤ 8 := by
  simp only [isAtomB, inB, Bool.and_eq_true, decide_eq_true_eq] at h; omega
theorem hd_of (s : ByteArray) (h : 0 < s.size) : ∃ r, s.data.toList = s[0] :: r := by
  rcases s with ⟨⟨l⟩⟩
  cases l with
  | nil => simp [ByteArray.size] at h
  | cons c r => exact ⟨r, rfl⟩
theorem nameB_of (s : ByteArray) (h : 0 < s.size) (ha : isAtomB s = true) : isNameB s = decide (97 ≤ (s[0].toNat : Int)) := by
  obtain ⟨r, hr⟩ := hd_of s h
  unfold isNameB; rw [ha, hr]; simp
theorem nameB_in (s : ByteArray) (h : 0 < s.size) (ha : isAtomB s = true) : isNameB s = inB (s[0].toNat : Int) 97 122 := by
  rw [nameB_of s h ha]
  obtain ⟨r, hr⟩ := hd_of s h
  have h1 := ha
  unfold isAtomB at h1
  rw [hr] at h1
  simp only [List.all_cons, atomCh, inB, Bool.and_eq_true, Bool.or_eq_true, decide_eq_true_eq] at h1
  unfold inB
  have := byte_lt s[0]
  rw [Bool.eq_iff_iff]; simp; omega
theorem nameB_no (s : ByteArray) (ha : isAtomB s = false) : isNameB s = false := by unfold isNameB; rw [ha]; rfl


/- memory: a slice of texts -/
def TX (w : World) (lo hi : Nat) (v : Value) (L : List ByteArray) : Prop :=
  ∃ a cap, v = .slice a L.length cap ∧ L.length ≤ cap ∧ cap ≤ maxLen ∧
    (0 < L.length → ∃ b off, a = some ⟨b, off, none⟩ ∧ lo ≤ b ∧ b < hi ∧ ∀ i (h : i < L.length), w.cell? ⟨b, off + i, none⟩ = some (.string L[i]))
theorem TX.keep {w w' : World} {lo hi : Nat} {v : Value} {L : List ByteArray} (h : TX w lo hi v L) (hk : ∀ b, lo ≤ b → b < hi → w'.heap[b]? = w.heap[b]?) : TX w' lo hi v L := by
  obtain ⟨a, cap, h1, h2, h3, h4⟩ := h
  refine ⟨a, cap, h1, h2, h3, fun hp => ?_⟩
  obtain ⟨b, off, e, hl, hh, hc⟩ := h4 hp
  exact ⟨b, off, e, hl, hh, fun i hi => (World.cell?_of_block (w := w) (hk b hl hh)).trans (hc i hi)⟩
theorem TX.below {w w' : World} {lo hi B : Nat} {v : Value} {L : List ByteArray} (h : TX w lo hi v L) (hb : Below B w w') (hB : hi ≤ B) : TX w' lo hi v L :=
  h.keep fun b _ h2 => hb.block b (by omega)
theorem TX.mono {w : World} {lo hi lo' hi' : Nat} {v : Value} {L : List ByteArray} (h : TX w lo hi v L) (h1 : lo' ≤ lo) (h2 : hi ≤ hi') : TX w lo' hi' v L := by
  obtain ⟨a, cap, e1, e2, e3, h4⟩ := h
  refine ⟨a, cap, e1, e2, e3, fun hp => ?_⟩
  obtain ⟨b, off, e, hl, hh, hc⟩ := h4 hp
  exact ⟨b, off, e, by omega, by omega, hc⟩
theorem TX.len {w : World} {lo hi : Nat} {v : Value} {L : List ByteArray} (h : TX w lo hi v L) : L.length ≤ 9223372036854775807 := by
  obtain ⟨a, cap, e1, e2, e3, h4⟩ := h
  unfold maxLen at e3
  omega

/- sizes: what the laws count -/
def tsum : List ByteArray → Nat
  | [] => 0
  | s :: r => s.size + tsum r
def tsz (L : List ByteArray) : Nat := L.length + tsum L
def szv (left : Int) (n : Nat) : Int := if (n : Int) ≤ left then left - n else -1
theorem tsum_append (A B : List ByteArray) : tsum (A ++ B) = tsum A + tsum B := by
  induction A with
  | nil => simp [tsum]
  | cons a A ih => simp [tsum, ih]; omega
theorem tsum_take_succ (L : List ByteArray) (k : Nat) (h : k < L.length) : tsum (L.take (k + 1)) = tsum (L.take k) + L[k].size := by
  rw [List.take_succ_eq_append_getElem h, tsum_append]; simp [tsum]
theorem tsum_take_le (L : List ByteArray) (k : Nat) : tsum (L.take k) ≤ tsum L := by
  conv => rhs; rw [← List.take_append_drop k L]
  rw [tsum_append]; omega
theorem tsum_mem {L : List ByteArray} {s : ByteArray} (h : s ∈ L) : s.size ≤ tsum L := by
  induction L with
  | nil => cases h
  | cons a A ih =>
    rcases List.mem_cons.1 h with rfl | h
    · simp [tsum]
    · have := ih h; simp [tsum]; omega

/- what the call itself owns -/
theorem below_drewN {B : Nat} {a w : World} (h : Below B a w) (n : Nat) : Below B a (w.drewN n) := ⟨h.os, h.tape, h.output, h.size, h.block⟩
def TO (E : TypeId) (w : World) (lo hi : Nat) (v : Value) (L : List ByteArray) : Prop :=
  w.ownsRow lo E 1 v L.length (L.map Value.string) ∧ ∀ g, v.ownBlock = some g → g < hi
theorem ownsRow_ex {w : World} {lo g n cap size : Nat} {e : TypeId} {xs : List Value} (h : w.ownsRow lo e size (.slice (some ⟨g, 0, none⟩) n cap) n xs) (j : Nat) (hj : j < n * size) : ∃ x, w.cell? ⟨g, j, none⟩ = some x := by
  have hl := h.1
  exact ⟨xs[j], by rw [h.cellAt j hj, List.getElem?_eq_getElem (by omega)]⟩
theorem set_take_succ {xs ys : List Value} {k : Nat} {x : Value} (h : xs.take k = ys.take k) (hk : k < xs.length) (hx : ys[k]? = some x) : (xs.set k x).take (k + 1) = ys.take (k + 1) := by
  have hy := List.getElem?_eq_some_iff.1 hx
  obtain ⟨hy1, hy2⟩ := hy
  rw [List.take_succ_eq_append_getElem (by simpa using hk), List.take_succ_eq_append_getElem hy1, List.take_set_of_le (Nat.le_refl _), h]
  simp [hy2]

theorem TO.tx {E : TypeId} {w : World} {lo hi : Nat} {v : Value} {L : List ByteArray} (h : TO E w lo hi v L) : TX w lo hi v L := by
  obtain ⟨⟨hl, h⟩, hh⟩ := h
  rcases h with ⟨rfl, h0⟩ | ⟨g, cap, cur, rfl, hb, hg, hnc, hcm, hcs, htake⟩
  · exact ⟨none, 0, by rw [h0], by omega, by simp [maxLen], by omega⟩
  · refine ⟨_, cap, rfl, hnc, hcm, fun hp => ⟨g, 0, rfl, hb, hh g rfl, fun i hi => ?_⟩⟩
    have hr : w.ownsRow lo E 1 (.slice (some ⟨g, 0, none⟩) L.length cap) L.length (L.map Value.string) := ⟨hl, .inr ⟨g, cap, cur, rfl, hb, hg, hnc, hcm, hcs, htake⟩⟩
    rw [Nat.zero_add, hr.cellAt i (by omega)]
    simp [hi]


theorem keepCell {w w' : World} {a : Addr} {v : Value} (hb : Below w.heap.size w w') (h : w.cell? a = some v) : w'.cell? a = some v :=
  (hb.cell (World.block_lt_of_cell? w a h)).trans h
theorem grown_below {a w w' : World} {row : Option Nat} (h : a.grownBy w row) (hb : Below w.heap.size w w') : a.grownBy w' row :=
  ⟨hb.os.trans h.os, hb.tape.trans h.tape, hb.output.trans h.output, Nat.le_trans h.size hb.size, fun i hi hn => (hb.block i (Nat.lt_of_lt_of_le hi h.size)).trans (h.block i hi hn)⟩
theorem grown_trans {a w w' : World} {row : Option Nat} (h : a.grownBy w row) (k : w.grownBy w' row) : a.grownBy w' row :=
  ⟨k.os.trans h.os, k.tape.trans h.tape, k.output.trans h.output, Nat.le_trans h.size k.size, fun i hi hn => (k.block i (Nat.lt_of_lt_of_le hi h.size) hn).trans (h.block i hi hn)⟩
theorem grown_of_below {w w' : World} {row : Option Nat} (hb : Below w.heap.size w w') : w.grownBy w' row :=
  ⟨hb.os, hb.tape, hb.output, hb.size, fun i hi _ => hb.block i hi⟩
theorem owns_below {w w' : World} {lo size n : Nat} {e : TypeId} {v : Value} {xs : List Value} (h : w.ownsRow lo e size v n xs) (hb : Below w.heap.size w w') : w'.ownsRow lo e size v n xs :=
  h.kept (row := none) (grown_of_below hb) (by cases hv : v.ownBlock <;> simp)


/- texts that mark -/
def dig10 (k : Nat) : ByteArray := strOfNums [48 + (k : Int) % 10]
def mkDig : Nat → Nat → ByteArray → ByteArray
  | 0, _, acc => acc
  | f+1, k, acc => if k = 0 then acc else mkDig f (k/10) (dig10 k ++ acc)
def markTxt (k : Nat) : ByteArray := ⟨#[109]⟩ ++ mkDig k k ⟨#[]⟩
theorem mkDig_zero (f : Nat) (acc : ByteArray) : mkDig f 0 acc = acc := by cases f <;> simp [mkDig]
def markL : Nat → Nat → List ByteArray
  | _, 0 => []
  | k, n+1 => markTxt k :: markL (k+1) n
theorem markL_len (k n : Nat) : (markL k n).length = n := by
  induction n generalizing k with
  | zero => rfl
  | succ n ih => simp [markL, ih]
theorem markL_get (k n i : Nat) (h : i < n) : (markL k n)[i]'(by rw [markL_len]; exact h) = markTxt (k+i) := by
  induction n generalizing k i with
  | zero => omega
  | succ n ih =>
    cases i with
    | zero => rfl
    | succ i => simp only [markL, List.getElem_cons_succ]; rw [ih (k+1) i (by omega)]; congr 1; omega
theorem run_one_byte {P : Program} {src e dst : TypeId} (hs : P.underlying src = some (.slice e)) (he : P.underlying e = some (.int .u8)) (hd : P.underlying dst = some .string) (W : World) (n : Int) :
    (convert src dst (.slice (some ⟨W.heap.size, 0, none⟩) 1 1)).run P (W.alloc (.cells #[.int .u8 n] e)) = .ok (.string (strOfNums [n])) (W.alloc (.cells #[.int .u8 n] e)) :=
  run_convert_bytes_arg _ src e hs he W.heap.size 0 1 1 [n] rfl (fun i hi => by
    obtain rfl : i = 0 := by omega
    rw [World.cell?_alloc_mark]; rfl) dst hd

end Go.Proofs.Ytojgkodffmdnpaa
