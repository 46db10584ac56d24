/- Plain laws of texts as lists of bytes: dividing, joining, and how the reference's loops do it; no condition: nothing of the program is named here. -/
import Derived.Lib.SplitLaws
import Derived.Lib.Split
import Derived.Lib.Join
import Derived.Lib.Strings
namespace Go.Proofs.Ytojgkodffmdnpaa

theorem data_inj {a b : ByteArray} (h : a.data.toList = b.data.toList) : a = b := by
  cases a; cases b; simp at h; rw [h]
theorem map_data_inj {A B : List ByteArray} (h : A.map (·.data.toList) = B.map (·.data.toList)) : A = B := by
  induction A generalizing B with
  | nil => cases B with
    | nil => rfl
    | cons => simp at h
  | cons a r ih => cases B with
    | nil => simp at h
    | cons b s =>
      simp only [List.map_cons, List.cons.injEq] at h
      rw [data_inj h.1, ih h.2]
theorem split_miss {s sep : List UInt8} (h : Lib.index s sep = -1) : Lib.split s sep = [s] := by
  unfold Lib.split; rw [Lib.count_miss h]; rfl
theorem split_hit {s sep : List UInt8} {i : Nat} (hs : sep ≠ []) (h : Lib.index s sep = i) : Lib.split s sep = s.take i :: Lib.split (s.drop (i + sep.length)) sep := by
  unfold Lib.split
  rw [Lib.count_hit hs h, Nat.add_comm 1, Lib.splitK]
  have hm : ¬ (Lib.index s sep == -1) = true := fun e => by have := beq_iff_eq.1 e; omega
  rw [if_neg hm, h]; simp
/-- a text divided at each instance of another one that is not empty -/
def spB (s sep : ByteArray) : List ByteArray := Lib.splitB sep 0 (Lib.countB s sep) s
theorem spB_data (s sep : ByteArray) : (spB s sep).map (·.data.toList) = Lib.split s.data.toList sep.data.toList := Lib.splitB_data sep 0 _ s
theorem spB_len (s sep : ByteArray) (h1 : 1 ≤ sep.size) : (spB s sep).length = Lib.countB s sep + 1 := Lib.splitB_all sep h1 0 _ s rfl
theorem spB_le (s sep : ByteArray) (h1 : 1 ≤ sep.size) : (spB s sep).length ≤ s.size + 1 := by
  rw [spB_len s sep h1]; have := Lib.countB_le sep h1 s.size s (Nat.le_refl _); omega
def splitV (s sep : ByteArray) : List ByteArray := if sep.size = 0 then [s] else spB s sep
theorem splitV_le (s sep : ByteArray) : (splitV s sep).length ≤ s.size + 1 := by
  unfold splitV; split
  · simp
  · exact spB_le s sep (by omega)
/- the reference's loop -/
structure SplI (s sep : ByteArray) (L : List ByteArray) (f i : Nat) : Prop where
  le : f ≤ i
  top : i ≤ s.size
  len : L.length ≤ f
  no : Lib.NoOcc (s.data.toList.drop f) sep.data.toList (i - f)
  eq : L.map (·.data.toList) ++ Lib.split (s.data.toList.drop f) sep.data.toList = Lib.split s.data.toList sep.data.toList
theorem SplI.start (s sep : ByteArray) : SplI s sep [] 0 0 := ⟨Nat.le_refl _, Nat.zero_le _, Nat.le_refl _, Lib.NoOcc.zero _ _, rfl⟩
theorem occ_of {s sep : ByteArray} {f i : Nat} (hf : f ≤ i) (hr : i + sep.size ≤ s.size) : Lib.occAt (s.data.toList.drop f) sep.data.toList (i - f) = ((s.extract i (i + sep.size)).toList == sep.toList) := by
  unfold Lib.occAt
  rw [List.drop_drop, show f + (i - f) = i by omega, Lib.extract_toList, Lib.toList_data, show i + sep.size - i = sep.size by omega]
  have h := Lib.hasPrefix_of_take (s.data.toList.drop i) sep.data.toList
  rw [show sep.data.toList.length = sep.size by simp] at h
  unfold Lib.hasPrefix at h
  rw [← h]
  have : sep.size ≤ (s.data.toList.drop i).length := by simp; omega
  rw [decide_eq_true this, Bool.true_and]
theorem SplI.hit {s sep : ByteArray} {L : List ByteArray} {f i : Nat} (h : SplI s sep L f i) (h1 : 1 ≤ sep.size) (hr : i + sep.size ≤ s.size) (hq : ((s.extract i (i + sep.size)).toList == sep.toList) = true) : SplI s sep (L ++ [s.extract f i]) (i + sep.size) (i + sep.size) := by
  have hl := h.le
  refine ⟨Nat.le_refl _, hr, by have := h.len; simp; omega, by rw [Nat.sub_self]; exact Lib.NoOcc.zero _ _, ?_⟩
  have hne : sep.data.toList ≠ [] := fun e => by have : sep.size = 0 := by rw [Lib.size_eq, e]; rfl
                                                 omega
  have hi : Lib.index (s.data.toList.drop f) sep.data.toList = ((i - f : Nat) : Int) := Lib.index_first (by simp; omega) (by rw [occ_of hl hr]; exact hq) h.no
  have he := h.eq
  rw [split_hit hne hi, List.drop_drop, show f + (i - f + sep.data.toList.length) = i + sep.size by simp; omega] at he
  rw [← he, List.map_append]
  simp
theorem SplI.miss {s sep : ByteArray} {L : List ByteArray} {f i : Nat} (h : SplI s sep L f i) (h1 : 1 ≤ sep.size) (hr : i + sep.size ≤ s.size) (hq : ((s.extract i (i + sep.size)).toList == sep.toList) = false) : SplI s sep L f (i + 1) := by
  have hl := h.le
  refine ⟨by omega, by omega, h.len, ?_, h.eq⟩
  rw [show i + 1 - f = i - f + 1 by omega]
  exact h.no.succ (by rw [occ_of hl hr]; exact hq)
theorem SplI.stop {s sep : ByteArray} {L : List ByteArray} {f i : Nat} (h : SplI s sep L f i) (h1 : 1 ≤ sep.size) (hr : s.size < i + sep.size) : L ++ [s.extract f s.size] = spB s sep := by
  have hl := h.le
  have ht := h.top
  apply map_data_inj
  rw [spB_data, ← h.eq, List.map_append]
  have : Lib.index (s.data.toList.drop f) sep.data.toList = -1 := by
    apply Lib.index_none
    intro j hj
    by_cases hji : j < i - f
    · exact h.no j hji
    · cases ho : Lib.occAt (s.data.toList.drop f) sep.data.toList j with
      | false => rfl
      | true =>
        rcases Lib.occAt_room ho with hh | hh
        · simp at hh; omega
        · have : sep.size = 0 := by rw [Lib.size_eq, hh]; rfl
          omega
  rw [split_miss this, List.map_singleton, Lib.extract_to_end]

/- joining -/
def joinB (L : List ByteArray) (sep : ByteArray) : ByteArray := ⟨(Lib.join (L.map (·.data.toList)) sep.data.toList).toArray⟩
theorem joinB_nil (sep : ByteArray) : joinB [] sep = ByteArray.empty := rfl
theorem joinB_data (L : List ByteArray) (sep : ByteArray) : (joinB L sep).data.toList = Lib.join (L.map (·.data.toList)) sep.data.toList := by simp [joinB]
theorem joinB_one (s sep : ByteArray) : joinB [s] sep = s := by
  apply data_inj; rw [joinB_data]; simp [Lib.join_one]
theorem join_snoc (A : List (List UInt8)) (x sep : List UInt8) (h : A ≠ []) : Lib.join (A ++ [x]) sep = Lib.join A sep ++ sep ++ x := by
  cases A with
  | nil => exact absurd rfl h
  | cons a r => rw [List.cons_append, Lib.join_cons, Lib.join_cons]; simp [Lib.joinTail]
theorem joinB_snoc (A : List ByteArray) (x sep : ByteArray) (h : A ≠ []) : joinB (A ++ [x]) sep = joinB A sep ++ sep ++ x := by
  apply data_inj
  rw [joinB_data, List.map_append, List.map_singleton, join_snoc _ _ _ (by simpa using h)]
  simp [joinB_data]
theorem joinB_cons (a : ByteArray) (r : List ByteArray) (sep : ByteArray) (h : r ≠ []) : joinB (a :: r) sep = a ++ sep ++ joinB r sep := by
  apply data_inj
  cases r with
  | nil => exact absurd rfl h
  | cons b r =>
    rw [joinB_data, List.map_cons, Lib.join_cons, List.map_cons]
    simp [joinB_data, Lib.join_cons, Lib.joinTail]
def tlen : List ByteArray → Nat
  | [] => 0
  | s :: r => s.size + tlen r
theorem joinB_size (L : List ByteArray) (sep : ByteArray) : (joinB L sep).size = tlen L + (L.length - 1) * sep.size := by
  induction L with
  | nil => simp [joinB_nil, tlen]
  | cons a r ih =>
    cases r with
    | nil => rw [joinB_one]; simp [tlen]
    | cons b r =>
      rw [joinB_cons _ _ _ (by simp), ByteArray.size_append, ByteArray.size_append, ih]
      simp only [tlen, List.length_cons, Nat.add_sub_cancel, Nat.add_mul, Nat.one_mul]
      omega
theorem tlen_append (A B : List ByteArray) : tlen (A ++ B) = tlen A + tlen B := by
  induction A with
  | nil => simp [tlen]
  | cons a r ih => simp only [List.cons_append, tlen, ih]; omega
theorem tlen_take_le (L : List ByteArray) (k : Nat) : tlen (L.take k) ≤ tlen L := by
  conv => rhs; rw [← List.take_append_drop k L]
  rw [tlen_append]; omega
theorem joinB_take_le (L : List ByteArray) (sep : ByteArray) (k : Nat) : (joinB (L.take k) sep).size ≤ tlen L + L.length * sep.size := by
  rw [joinB_size]
  have h1 := tlen_take_le L k
  have h2 : ((L.take k).length - 1) * sep.size ≤ L.length * sep.size := Nat.mul_le_mul_right _ (by simp; omega)
  omega
theorem joinB_succ (L : List ByteArray) (sep : ByteArray) (k : Nat) (h : k + 1 < L.length) : joinB (L.take (k + 2)) sep = joinB (L.take (k + 1)) sep ++ sep ++ L[k + 1] := by
  rw [List.take_succ_eq_append_getElem h, joinB_snoc _ _ _ (by intro e; have := congrArg List.length e; rw [List.length_take, List.length_nil] at this; omega)]
end Go.Proofs.Ytojgkodffmdnpaa
