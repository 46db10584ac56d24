/- Plain laws of sorted lists of texts, each text once: the reference's insertion and the program's sorting with the double ones left out give the same list; no condition: nothing of the program is named here. -/
import Derived.WalkKit
import Derived.Test.YtojgkodffmdnpaaPl1
namespace Go.Proofs.Ytojgkodffmdnpaa

def ltS (a b : ByteArray) : Bool := Op.bytesLess a.data.toList b.data.toList
theorem bl_irr : ∀ l : List UInt8, Op.bytesLess l l = false
  | [] => rfl
  | a :: r => by simp [Op.bytesLess, bl_irr r]
theorem bl_tr : ∀ {x y z : List UInt8}, Op.bytesLess x y = true → Op.bytesLess y z = true → Op.bytesLess x z = true
  | _, _, [], _, h => by simp [Op.bytesLess] at h
  | _, [], _, h, _ => by simp [Op.bytesLess] at h
  | [], _ :: _, _ :: _, _, _ => rfl
  | a :: x, b :: y, c :: z, h1, h2 => by
    simp only [Op.bytesLess, Bool.or_eq_true, Bool.and_eq_true, decide_eq_true_eq, beq_iff_eq] at h1 h2 ⊢
    rcases h1 with h1 | ⟨rfl, h1⟩
    · rcases h2 with h2 | ⟨rfl, h2⟩
      · exact .inl (UInt8.lt_trans h1 h2)
      · exact .inl h1
    · rcases h2 with h2 | ⟨rfl, h2⟩
      · exact .inl h2
      · exact .inr ⟨rfl, bl_tr h1 h2⟩
theorem bl_tri : ∀ {x y : List UInt8}, Op.bytesLess x y = false → Op.bytesLess y x = false → x = y
  | [], [], _, _ => rfl
  | [], _ :: _, h, _ => by simp [Op.bytesLess] at h
  | _ :: _, [], _, h => by simp [Op.bytesLess] at h
  | a :: x, b :: y, h1, h2 => by
    simp only [Op.bytesLess, Bool.or_eq_false_iff, Bool.and_eq_false_imp, decide_eq_false_iff_not, beq_iff_eq] at h1 h2
    obtain rfl : a = b := UInt8.le_antisymm (UInt8.not_lt.1 h2.1) (UInt8.not_lt.1 h1.1)
    rw [bl_tri (h1.2 rfl) (h2.2 rfl)]
theorem ltS_irr (a : ByteArray) : ltS a a = false := bl_irr _
theorem ltS_tr {a b c : ByteArray} (h : ltS a b = true) (h' : ltS b c = true) : ltS a c = true := bl_tr h h'
theorem ltS_tri {a b : ByteArray} (h : ltS a b = false) (h' : ltS b a = false) : a = b := data_inj (bl_tri h h')
theorem ltS_asym {a b : ByteArray} (h : ltS a b = true) : ltS b a = false := by
  cases h' : ltS b a with
  | false => rfl
  | true => have := ltS_tr h h'; rw [ltS_irr] at this; cases this
theorem ltS_ge_tr {a b c : ByteArray} (h : ltS b a = false) (h' : ltS b c = true) : ltS a c = true := by
  cases hab : ltS a b with
  | true => exact ltS_tr hab h'
  | false => rw [ltS_tri hab h]; exact h'
def Asc (L : List ByteArray) : Prop := L.Pairwise fun a b => ltS a b = true
theorem asc_unique : ∀ {A B : List ByteArray}, Asc A → Asc B → (∀ x, x ∈ A ↔ x ∈ B) → A = B
  | [], [], _, _, _ => rfl
  | [], b :: s, _, _, h => by have := (h b).2 (by simp); simp at this
  | a :: r, [], _, _, h => by have := (h a).1 (by simp); simp at this
  | a :: r, b :: s, hA, hB, h => by
    have hA' := List.pairwise_cons.1 hA
    have hB' := List.pairwise_cons.1 hB
    have e : a = b := by
      have h1 := (h a).1 (by simp)
      have h2 := (h b).2 (by simp)
      rcases List.mem_cons.1 h1 with h1 | h1
      · exact h1
      · rcases List.mem_cons.1 h2 with h2 | h2
        · exact h2.symm
        · have := ltS_asym (hB'.1 a h1); rw [hA'.1 b h2] at this; cases this
    subst e
    rw [asc_unique hA'.2 hB'.2 (fun x => ⟨fun hx => ?_, fun hx => ?_⟩)]
    · rcases List.mem_cons.1 ((h x).1 (by simp [hx])) with rfl | h1
      · have := hA'.1 x hx; rw [ltS_irr] at this; cases this
      · exact h1
    · rcases List.mem_cons.1 ((h x).2 (by simp [hx])) with rfl | h1
      · have := hB'.1 x hx; rw [ltS_irr] at this; cases this
      · exact h1
/- the reference: a text is put into ascending ones -/
def putT : List ByteArray → ByteArray → List ByteArray
  | [], s => [s]
  | x :: r, s => if ltS x s then x :: putT r s else if x = s then x :: r else s :: x :: r
theorem putT_mem (L : List ByteArray) (s x : ByteArray) : x ∈ putT L s ↔ x = s ∨ x ∈ L := by
  induction L with
  | nil => simp [putT]
  | cons a r ih =>
    unfold putT
    split
    · simp only [List.mem_cons, ih]
      constructor
      · rintro (h | h | h) <;> simp [h]
      · rintro (h | h | h) <;> simp [h]
    · split
      · rename_i h; subst h; simp
      · simp
theorem putT_asc (L : List ByteArray) (s : ByteArray) (h : Asc L) : Asc (putT L s) := by
  induction L with
  | nil => simp [putT, Asc]
  | cons a r ih =>
    have h' := List.pairwise_cons.1 h
    unfold putT
    split
    · rename_i hl
      refine List.pairwise_cons.2 ⟨fun x hx => ?_, ih h'.2⟩
      rcases (putT_mem r s x).1 hx with rfl | hx
      · exact hl
      · exact h'.1 x hx
    · rename_i hl
      split
      · exact h
      · rename_i hne
        have hl : ltS a s = false := by simpa using hl
        have hsa : ltS s a = true := by
          cases hq : ltS s a with
          | true => rfl
          | false => exact absurd (ltS_tri hl hq) hne
        refine List.pairwise_cons.2 ⟨fun x hx => ?_, h⟩
        rcases List.mem_cons.1 hx with rfl | hx
        · exact hsa
        · exact ltS_tr hsa (h'.1 x hx)
theorem putT_len (L : List ByteArray) (s : ByteArray) : (putT L s).length ≤ L.length + 1 := by
  induction L with
  | nil => simp [putT]
  | cons a r ih =>
    unfold putT
    split
    · simp; omega
    · split <;> simp
def setT (L : List ByteArray) : List ByteArray := L.foldl putT []
theorem foldl_put (L : List ByteArray) (A : List ByteArray) (hA : Asc A) : Asc (L.foldl putT A) ∧ ∀ x, x ∈ L.foldl putT A ↔ x ∈ A ∨ x ∈ L := by
  induction L generalizing A with
  | nil => simp [hA]
  | cons a r ih =>
    have h := ih (putT A a) (putT_asc A a hA)
    refine ⟨h.1, fun x => ?_⟩
    rw [List.foldl_cons, h.2 x, putT_mem, List.mem_cons]
    constructor
    · rintro ((h | h) | h) <;> simp [h]
    · rintro (h | h | h) <;> simp [h]
theorem setT_asc (L : List ByteArray) : Asc (setT L) := (foldl_put L [] List.Pairwise.nil).1
theorem setT_mem (L : List ByteArray) (x : ByteArray) : x ∈ setT L ↔ x ∈ L := by have := (foldl_put L [] List.Pairwise.nil).2 x; unfold setT; rw [this]; simp
theorem foldl_len (L A : List ByteArray) : (L.foldl putT A).length ≤ A.length + L.length := by
  induction L generalizing A with
  | nil => simp
  | cons a r ih => have := ih (putT A a); have := putT_len A a; simp only [List.foldl_cons, List.length_cons]; omega
theorem setT_len (L : List ByteArray) : (setT L).length ≤ L.length := by have := foldl_len L []; simpa [setT] using this
theorem setT_take_succ (L : List ByteArray) (k : Nat) (h : k < L.length) : setT (L.take (k + 1)) = putT (setT (L.take k)) L[k] := by
  unfold setT; rw [List.take_succ_eq_append_getElem h, List.foldl_append]; rfl
/- the reference's loop inside: what has been gone through, and whether the text is in -/
def putK (L : List ByteArray) (s : ByteArray) (k : Nat) : List ByteArray := if (L.take k).any (fun x => !ltS x s) then putT (L.take k) s else L.take k
def putD (L : List ByteArray) (s : ByteArray) (k : Nat) : Bool := (L.take k).any (fun x => !ltS x s)
/- the program: the double ones left out of a sorted list -/
def ddKeep (A : List ByteArray) (i : Nat) : Bool := i == 0 || decide (A.getD (i - 1) ByteArray.empty ≠ A.getD i ByteArray.empty)
def ddK (A : List ByteArray) (k : Nat) : List ByteArray := ((List.range k).filter (ddKeep A)).map fun i => A.getD i ByteArray.empty
theorem ddK_t {A : List ByteArray} {k : Nat} (hk : k < A.length) (h : ddKeep A k = true) : ddK A (k + 1) = ddK A k ++ [A[k]] := by
  unfold ddK; rw [List.range_succ, List.filter_append, List.map_append]; simp [h, List.getD_eq_getElem?_getD, List.getElem?_eq_getElem hk]
theorem ddK_f {A : List ByteArray} {k : Nat} (h : ddKeep A k = false) : ddK A (k + 1) = ddK A k := by
  unfold ddK; rw [List.range_succ, List.filter_append, List.map_append]; simp [h]
theorem ddK_len (A : List ByteArray) (k : Nat) : (ddK A k).length ≤ k := by
  unfold ddK; rw [List.length_map]; have := List.length_filter_le (ddKeep A) (List.range k); simpa using this
theorem ddKeep_s {A : List ByteArray} {k : Nat} (hk : k + 1 < A.length) : ddKeep A (k + 1) = decide (A[k] ≠ A[k + 1]) := by
  unfold ddKeep; simp [List.getD_eq_getElem?_getD, List.getElem?_eq_getElem hk, List.getElem?_eq_getElem (show k < A.length by omega)]
def Up_ (A : List ByteArray) : Prop := A.Pairwise fun a b => ltS b a = false
theorem dd_asc {A : List ByteArray} (h : Up_ A) : Asc (ddK A A.length) := by
  unfold ddK Asc
  rw [List.pairwise_map]
  have hp : (List.range A.length).Pairwise (fun i j => i < j) := List.pairwise_lt_range
  have hf := hp.filter (ddKeep A)
  refine (List.Pairwise.and_mem.1 hf).imp ?_
  intro i j ⟨hi, hj, hij⟩
  rw [List.mem_filter, List.mem_range] at hi hj
  have e1 : A.getD i ByteArray.empty = A[i]'hi.1 := by simp [List.getD_eq_getElem?_getD, List.getElem?_eq_getElem hi.1]
  have e2 : A.getD j ByteArray.empty = A[j]'hj.1 := by simp [List.getD_eq_getElem?_getD, List.getElem?_eq_getElem hj.1]
  rw [e1, e2]
  obtain ⟨m, rfl⟩ : ∃ m, j = m + 1 := ⟨j - 1, by omega⟩
  have hk := hj.2
  rw [ddKeep_s hj.1, decide_eq_true_eq] at hk
  have hU := List.pairwise_iff_getElem.1 h
  have h1 := hU m (m + 1) (by omega) hj.1 (by omega)
  have hlt : ltS A[m] A[m + 1] = true := by
    cases hq : ltS A[m] A[m + 1] with
    | true => rfl
    | false => exact absurd (ltS_tri hq h1) hk
  by_cases him : i = m
  · subst him; exact hlt
  · exact ltS_ge_tr (hU i m hi.1 (by omega) (by omega)) hlt
theorem dd_mem {A : List ByteArray} (x : ByteArray) : x ∈ ddK A A.length ↔ x ∈ A := by
  constructor
  · intro hx
    unfold ddK at hx
    obtain ⟨i, hi, rfl⟩ := List.mem_map.1 hx
    rw [List.mem_filter, List.mem_range] at hi
    rw [List.getD_eq_getElem?_getD, List.getElem?_eq_getElem hi.1]
    exact List.getElem_mem hi.1
  · intro hx
    obtain ⟨i, hi, rfl⟩ := List.mem_iff_getElem.1 hx
    suffices h : ∀ n, n < A.length → A.getD n ByteArray.empty ∈ ddK A A.length by
      have := h i hi; rwa [List.getD_eq_getElem?_getD, List.getElem?_eq_getElem hi] at this
    intro n
    induction n with
    | zero => intro hn; unfold ddK; exact List.mem_map.2 ⟨0, by rw [List.mem_filter, List.mem_range]; exact ⟨hn, rfl⟩, rfl⟩
    | succ n ih =>
      intro hn
      cases hk : ddKeep A (n + 1) with
      | true => unfold ddK; exact List.mem_map.2 ⟨n + 1, by rw [List.mem_filter, List.mem_range]; exact ⟨hn, hk⟩, rfl⟩
      | false =>
        have h1 := ih (by omega)
        have : A.getD n ByteArray.empty = A.getD (n + 1) ByteArray.empty := by
          unfold ddKeep at hk; simpa using hk
        rwa [this] at h1
def sortT (L : List ByteArray) : List ByteArray := ((L.map (·.data.toList)).mergeSort fun x y => decide (x ≤ y)).map fun l => ⟨l.toArray⟩
theorem sortT_len (L : List ByteArray) : (sortT L).length = L.length := by simp [sortT]
theorem sortT_mem (L : List ByteArray) (x : ByteArray) : x ∈ sortT L ↔ x ∈ L := by
  unfold sortT
  simp only [List.mem_map, List.mem_mergeSort]
  constructor
  · rintro ⟨l, ⟨a, ha, rfl⟩, rfl⟩
    rwa [Lib.mk_data]
  · intro h; exact ⟨x.data.toList, ⟨x, h, rfl⟩, Lib.mk_data x⟩
theorem bl_lt : ∀ x y : List UInt8, Op.bytesLess x y = decide (x < y)
  | [], [] => by simp [Op.bytesLess]
  | _ :: _, [] => by simp [Op.bytesLess]
  | [], _ :: _ => by simp [Op.bytesLess]
  | a :: x, b :: y => by
    simp only [Op.bytesLess, List.cons_lt_cons_iff, bl_lt x y]
    by_cases h1 : a < b <;> by_cases h2 : a = b <;> by_cases h3 : x < y <;> simp [h1, h2, h3]
theorem le_bl (x y : List UInt8) : decide (x ≤ y) = !Op.bytesLess y x := by
  rw [bl_lt]
  have : (x ≤ y) ↔ ¬ (y < x) := List.not_lt.symm
  by_cases h : y < x <;> simp [this, h]
theorem sortT_up (L : List ByteArray) : Up_ (sortT L) := by
  unfold sortT Up_
  rw [List.pairwise_map]
  have h := List.pairwise_mergeSort (le := fun x y : List UInt8 => decide (x ≤ y)) (fun a b c h1 h2 => by
      rw [le_bl] at h1 h2 ⊢
      simp only [Bool.not_eq_true'] at h1 h2 ⊢
      cases hq : Op.bytesLess c a with
      | false => rfl
      | true =>
        cases hab : Op.bytesLess a b with
        | true => rw [bl_tr hq hab] at h2; cases h2
        | false => rw [bl_tri hab h1] at hq; rw [hq] at h2; cases h2) (fun a b => by
      rw [le_bl, le_bl]
      cases hq : Op.bytesLess b a with
      | false => rfl
      | true =>
        cases hab : Op.bytesLess a b with
        | false => rfl
        | true => have := bl_tr hq hab; rw [bl_irr] at this; cases this) (L.map (·.data.toList))
  refine h.imp ?_
  intro a b hab
  rw [le_bl] at hab
  simpa [ltS] using hab
/-- the two ways give one list -/
theorem dd_set (L : List ByteArray) : ddK (sortT L) (sortT L).length = setT L :=
  asc_unique (dd_asc (sortT_up L)) (setT_asc L) fun x => by rw [dd_mem, sortT_mem, setT_mem]
theorem setT_same {A B : List ByteArray} (h : ∀ x, x ∈ A ↔ x ∈ B) : setT A = setT B := asc_unique (setT_asc A) (setT_asc B) fun x => by rw [setT_mem, setT_mem, h]
/- the reference's insertion, one round after the other, over ascending ones -/
theorem putT_all_lt : ∀ {A : List ByteArray} {s : ByteArray}, A.any (fun x => !ltS x s) = false → putT A s = A ++ [s]
  | [], _, _ => rfl
  | a :: r, s, h => by
    simp only [List.any_cons, Bool.or_eq_false_iff, Bool.not_eq_false'] at h
    unfold putT; rw [if_pos h.1, putT_all_lt h.2]; rfl
theorem putT_snoc_d : ∀ {A : List ByteArray} {s y : ByteArray}, A.any (fun x => !ltS x s) = true → putT (A ++ [y]) s = putT A s ++ [y]
  | [], _, _, h => by simp at h
  | a :: r, s, y, h => by
    simp only [List.any_cons, Bool.or_eq_true, Bool.not_eq_true'] at h
    rw [List.cons_append]
    unfold putT
    cases hl : ltS a s with
    | true =>
      rw [hl] at h
      rw [if_pos rfl, if_pos rfl, putT_snoc_d (by simpa using h)]; rfl
    | false => simp only [Bool.false_eq_true, if_false]; split <;> rfl
theorem putT_snoc_n {A : List ByteArray} {s y : ByteArray} (h : A.any (fun x => !ltS x s) = false) (hy : ltS y s = false) : putT (A ++ [y]) s = if y = s then A ++ [y] else A ++ [s, y] := by
  induction A with
  | nil => simp [putT, hy]
  | cons a r ih =>
    simp only [List.any_cons, Bool.or_eq_false_iff, Bool.not_eq_false'] at h
    rw [List.cons_append]
    unfold putT
    rw [if_pos h.1, ih h.2]
    split <;> rfl
theorem putK_0 (L : List ByteArray) (s : ByteArray) : putK L s 0 = [] := by simp [putK]
theorem putD_0 (L : List ByteArray) (s : ByteArray) : putD L s 0 = false := by simp [putD]
theorem putD_succ {L : List ByteArray} {s : ByteArray} {k : Nat} (h : k < L.length) : putD L s (k + 1) = (putD L s k || !ltS L[k] s) := by
  unfold putD; rw [List.take_succ_eq_append_getElem h, List.any_append]; simp
theorem putK_d {L : List ByteArray} {s : ByteArray} {k : Nat} (h : k < L.length) (hd : putD L s k = true) : putK L s (k + 1) = putK L s k ++ [L[k]] := by
  have h1 := putD_succ (s := s) h
  rw [hd, Bool.true_or] at h1
  unfold putD at hd h1
  unfold putK
  rw [if_pos h1, if_pos hd, List.take_succ_eq_append_getElem h, putT_snoc_d hd]
theorem putK_lt {L : List ByteArray} {s : ByteArray} {k : Nat} (h : k < L.length) (hd : putD L s k = false) (hl : ltS L[k] s = true) : putK L s (k + 1) = putK L s k ++ [L[k]] := by
  have h1 := putD_succ (s := s) h
  rw [hd, hl] at h1
  unfold putD at hd h1
  unfold putK
  rw [if_neg (by rw [h1]; simp), if_neg (by rw [hd]; simp), List.take_succ_eq_append_getElem h]
theorem putK_ge {L : List ByteArray} {s : ByteArray} {k : Nat} (h : k < L.length) (hd : putD L s k = false) (hl : ltS L[k] s = false) : putK L s (k + 1) = if L[k] = s then putK L s k ++ [L[k]] else putK L s k ++ [s] ++ [L[k]] := by
  have h1 := putD_succ (s := s) h
  rw [hd, hl] at h1
  unfold putD at hd h1
  have e1 : putK L s (k + 1) = putT (L.take (k + 1)) s := by unfold putK; rw [if_pos (by rw [h1]; rfl)]
  have e2 : putK L s k = L.take k := by unfold putK; rw [if_neg (by rw [hd]; simp)]
  rw [e1, e2, List.take_succ_eq_append_getElem h, putT_snoc_n hd hl]
  split <;> simp
theorem putK_end_d {L : List ByteArray} {s : ByteArray} {k : Nat} (h : L.length ≤ k) (hd : putD L s k = true) : putK L s k = putT L s := by
  unfold putD at hd
  unfold putK; rw [if_pos hd, List.take_of_length_le h]
theorem putK_end_n {L : List ByteArray} {s : ByteArray} {k : Nat} (h : L.length ≤ k) (hd : putD L s k = false) : putK L s k ++ [s] = putT L s := by
  unfold putD at hd
  unfold putK; rw [if_neg (by rw [hd]; simp)]
  rw [List.take_of_length_le h] at hd ⊢
  rw [putT_all_lt hd]
theorem putK_len (L : List ByteArray) (s : ByteArray) (k : Nat) : (putK L s k).length ≤ k + 1 := by
  unfold putK; split
  · have := putT_len (L.take k) s; simp at this; omega
  · simp; omega
end Go.Proofs.Ytojgkodffmdnpaa
