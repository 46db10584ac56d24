/- Plain laws of the order of atoms and of facts: one total order; lists of facts in ascending order; no condition: nothing of the program is named here but the plain functions of the texts that are imported. -/
import Derived.Test.YtgpgeegpaaoakaaDoorPlA
import Derived.Test.YtgpgeegpaaoakaaDoorOrdA
import Derived.Test.YtgpgeegpaaoakaaDoorFindF
namespace Go.Proofs.YtgpgeegpaaoakaaDoor
set_option linter.unusedVariables false
theorem cmpL_zero : ∀ x y : List ByteArray, cmpL x y = 0 ↔ x = y
  | [], [] => by simp [cmpL]
  | [], _ :: _ => by simp [cmpL]
  | _ :: _, [] => by simp [cmpL]
  | a :: r, b :: s => by
    unfold cmpL
    by_cases h : cmpA a b = 0
    · rw [if_pos h, cmpL_zero r s, (ord_A.zero a b).1 h]; simp
    · rw [if_neg h]
      have : ¬ a = b := fun e => h ((ord_A.zero a b).2 e)
      simp [this, h]
theorem cmpL_anti : ∀ x y : List ByteArray, cmpL x y = - cmpL y x
  | [], [] => rfl
  | [], _ :: _ => rfl
  | _ :: _, [] => rfl
  | a :: r, b :: s => by
    unfold cmpL
    have h := ord_A.anti a b
    by_cases h0 : cmpA a b = 0
    · rw [if_pos h0, if_pos (by omega)]; exact cmpL_anti r s
    · rw [if_neg h0, if_neg (by omega)]; exact h
theorem cmpL_tr : ∀ x y z : List ByteArray, cmpL x y ≤ 0 → cmpL y z ≤ 0 → cmpL x z ≤ 0
  | [], _, [], _, _ => by simp [cmpL]
  | [], _, _ :: _, _, _ => by simp [cmpL]
  | _ :: _, [], _, h, _ => by simp [cmpL] at h
  | _ :: _, _ :: _, [], _, h => by simp [cmpL] at h
  | a :: r, b :: s, d :: t, h1, h2 => by
    unfold cmpL at h1 h2 ⊢
    by_cases q1 : cmpA a b = 0
    · rw [if_pos q1] at h1
      have e := (ord_A.zero a b).1 q1
      subst e
      by_cases q2 : cmpA a d = 0
      · rw [if_pos q2] at h2 ⊢; exact cmpL_tr r s t h1 h2
      · rw [if_neg q2] at h2 ⊢; exact h2
    · rw [if_neg q1] at h1
      by_cases q2 : cmpA b d = 0
      · have e := (ord_A.zero b d).1 q2
        subst e
        rw [if_neg q1]; exact h1
      · rw [if_neg q2] at h2
        have := ord_A.lt_tr (a := a) (b := b) (d := d) (by omega) (by omega)
        rw [if_neg (by omega)]; omega
theorem factV_ext {f g : FactV} (h1 : f.rel = g.rel) (h2 : f.args = g.args) : f = g := by cases f; cases g; simp_all
theorem ord_F : Ord3 cmpF := by
  refine ⟨fun f g => ?_, fun f g => ?_, fun f g k h1 h2 => ?_⟩
  · unfold cmpF
    by_cases h : cmpS f.rel g.rel = 0
    · rw [if_pos h, cmpL_zero]
      have e := (ord_S.zero _ _).1 h
      exact ⟨fun h => factV_ext e h, fun h => by rw [h]⟩
    · rw [if_neg h]
      exact ⟨fun h' => absurd h' h, fun e => by subst e; exact absurd (ord_S.self _) h⟩
  · unfold cmpF
    have h := ord_S.anti f.rel g.rel
    by_cases h0 : cmpS f.rel g.rel = 0
    · rw [if_pos h0, if_pos (by omega)]; exact cmpL_anti _ _
    · rw [if_neg h0, if_neg (by omega)]; exact h
  · unfold cmpF at h1 h2 ⊢
    by_cases q1 : cmpS f.rel g.rel = 0
    · rw [if_pos q1] at h1
      have e := (ord_S.zero _ _).1 q1
      rw [← e] at h2
      by_cases q2 : cmpS f.rel k.rel = 0
      · rw [if_pos q2] at h2 ⊢; exact cmpL_tr _ _ _ h1 h2
      · rw [if_neg q2] at h2 ⊢; exact h2
    · rw [if_neg q1] at h1
      by_cases q2 : cmpS g.rel k.rel = 0
      · have e := (ord_S.zero _ _).1 q2
        rw [← e, if_neg q1]; exact h1
      · rw [if_neg q2] at h2
        have := ord_S.lt_tr (a := f.rel) (b := g.rel) (d := k.rel) (by omega) (by omega)
        rw [if_neg (by omega)]; omega
/- lists of facts in ascending order -/
def AscF (L : List FactV) : Prop := L.Pairwise fun a b => cmpF a b < 0
theorem areFB_iff (x : List FactV) : areFB x = true ↔ x.length ≤ 24 ∧ (∀ f ∈ x, isFactB f = true) ∧ AscF x := by
  unfold areFB
  rw [Bool.and_eq_true, decide_eq_true_eq, List.all_eq_true]
  constructor
  · rintro ⟨h1, h2⟩
    have hk : ∀ k (hk : k < x.length), isFactB x[k] = true := fun k hk => by
      have h := h2 k (List.mem_range.2 hk)
      cases k with
      | zero => rwa [okFAt_0 hk] at h
      | succ k => rw [okFAt_s hk, Bool.and_eq_true] at h; exact h.1
    have hs : ∀ k (hk : k + 1 < x.length), cmpF x[k] x[k + 1] < 0 := fun k hk => by
      have h := h2 (k + 1) (List.mem_range.2 hk)
      rw [okFAt_s hk, Bool.and_eq_true, decide_eq_true_eq] at h; exact h.2
    refine ⟨h1, fun f hf => ?_, ?_⟩
    · obtain ⟨k, hk', rfl⟩ := List.mem_iff_getElem.1 hf; exact hk k hk'
    · unfold AscF
      rw [List.pairwise_iff_getElem]
      intro i j hi hj hij
      obtain ⟨d, rfl⟩ : ∃ d, j = i + 1 + d := ⟨j - i - 1, by omega⟩
      induction d with
      | zero => exact hs i hj
      | succ d ih =>
        have h3 := ih (by omega) (by omega)
        have h4 := hs (i + 1 + d) (by omega)
        exact ord_F.lt_tr h3 h4
  · rintro ⟨h1, h2, h3⟩
    refine ⟨h1, fun k hk => ?_⟩
    rw [List.mem_range] at hk
    cases k with
    | zero => rw [okFAt_0 hk]; exact h2 _ (List.getElem_mem _)
    | succ k =>
      rw [okFAt_s hk, Bool.and_eq_true, decide_eq_true_eq]
      refine ⟨h2 _ (List.getElem_mem _), ?_⟩
      unfold AscF at h3
      rw [List.pairwise_iff_getElem] at h3
      exact h3 k (k + 1) (by omega) hk (by omega)
/- a fact is put into ascending ones: the reference's way, and the program's -/
def putF : List FactV → FactV → List FactV
  | [], f => [f]
  | x :: r, f => if cmpF x f < 0 then x :: putF r f else if cmpF x f = 0 then x :: r else f :: x :: r
def insF : List FactV → FactV → List FactV
  | [], f => [f]
  | x :: r, f => if 0 < cmpF x f then f :: x :: r else x :: insF r f
theorem putF_ins {L : List FactV} {f : FactV} (h : f ∉ L) : putF L f = insF L f := by
  induction L with
  | nil => rfl
  | cons x r ih =>
    simp only [List.mem_cons, not_or] at h
    unfold putF insF
    have h0 : cmpF x f ≠ 0 := fun e => h.1 ((ord_F.zero x f).1 e).symm
    by_cases h1 : cmpF x f < 0
    · rw [if_pos h1, if_neg (by omega), ih h.2]
    · rw [if_neg h1, if_neg h0, if_pos (by omega)]
theorem putF_mem (L : List FactV) (f x : FactV) : x ∈ putF L f ↔ x = f ∨ x ∈ L := by
  induction L with
  | nil => simp [putF]
  | cons a r ih =>
    unfold putF
    split
    · simp only [List.mem_cons, ih]
      constructor
      · rintro (h | h | h) <;> simp [h]
      · rintro (h | h | h) <;> simp [h]
    · split
      · rename_i h; have e := (ord_F.zero a f).1 h; subst e; simp
      · simp
theorem putF_asc {L : List FactV} {f : FactV} (h : AscF L) : AscF (putF L f) := by
  induction L with
  | nil => simp [putF, AscF]
  | cons a r ih =>
    have h' := List.pairwise_cons.1 h
    unfold putF
    split
    · rename_i hl
      refine List.pairwise_cons.2 ⟨fun x hx => ?_, ih h'.2⟩
      rcases (putF_mem r f x).1 hx with rfl | hx
      · exact hl
      · exact h'.1 x hx
    · rename_i hl
      split
      · exact h
      · rename_i hne
        have hsa : cmpF f a < 0 := by have := ord_F.anti f a; omega
        refine List.pairwise_cons.2 ⟨fun x hx => ?_, h⟩
        rcases List.mem_cons.1 hx with rfl | hx
        · exact hsa
        · exact ord_F.lt_tr hsa (h'.1 x hx)
theorem putF_len {L : List FactV} {f : FactV} (h : f ∉ L) : (putF L f).length = L.length + 1 := by
  induction L with
  | nil => rfl
  | cons a r ih =>
    simp only [List.mem_cons, not_or] at h
    unfold putF
    have h0 : cmpF a f ≠ 0 := fun e => h.1 ((ord_F.zero a f).1 e).symm
    split
    · simp [ih h.2]
    · first
      | rfl
      | (rw [if_neg h0]; rfl)
theorem putF_le (L : List FactV) (f : FactV) : (putF L f).length ≤ L.length + 1 := by
  induction L with
  | nil => simp [putF]
  | cons a r ih =>
    unfold putF
    split
    · simp; omega
    · split <;> simp
/- a fact is left out -/
def rmF (L : List FactV) (f : FactV) : List FactV := L.filter fun x => !sameFB x f
theorem rmF_mem (L : List FactV) (f x : FactV) : x ∈ rmF L f ↔ x ∈ L ∧ x ≠ f := by
  unfold rmF
  rw [List.mem_filter]
  constructor
  · rintro ⟨h1, h2⟩
    refine ⟨h1, fun e => ?_⟩
    rw [sameFB_iff.2 e] at h2; cases h2
  · rintro ⟨h1, h2⟩
    refine ⟨h1, ?_⟩
    cases hq : sameFB x f with
    | false => rfl
    | true => exact absurd (sameFB_iff.1 hq) h2
theorem rmF_none {L : List FactV} {f : FactV} (h : f ∉ L) : rmF L f = L := by
  unfold rmF
  rw [List.filter_eq_self]
  intro x hx
  cases hq : sameFB x f with
  | false => rfl
  | true => have e := sameFB_iff.1 hq; subst e; exact absurd hx h
theorem rmF_asc {L : List FactV} {f : FactV} (h : AscF L) : AscF (rmF L f) := h.filter _
theorem asc_not_mem {x : FactV} {r : List FactV} (h : AscF (x :: r)) : x ∉ r := fun hx => by
  have := (List.pairwise_cons.1 h).1 x hx
  rw [ord_F.self] at this; omega
theorem rmF_cons {x : FactV} {r : List FactV} (h : x ∉ r) : rmF (x :: r) x = r := by
  have := rmF_none h
  unfold rmF at this ⊢
  rw [List.filter_cons, sameFB_iff.2 rfl]; simpa using this
theorem rmF_skip {x f : FactV} {r : List FactV} (h : x ≠ f) : rmF (x :: r) f = x :: rmF r f := by
  unfold rmF
  cases hq : sameFB x f with
  | true => exact absurd (sameFB_iff.1 hq) h
  | false => rw [List.filter_cons, hq]; rfl
theorem rm_put {L : List FactV} {f : FactV} (hA : AscF L) (h : f ∉ L) : rmF (putF L f) f = L := by
  induction L with
  | nil => exact rmF_cons (x := f) (r := []) (by simp)
  | cons a r ih =>
    have h' := List.pairwise_cons.1 hA
    simp only [List.mem_cons, not_or] at h
    have h0 : cmpF a f ≠ 0 := fun e => h.1 ((ord_F.zero a f).1 e).symm
    unfold putF
    split
    · rw [rmF_skip (fun e => h.1 e.symm), ih h'.2 h.2]
    · first
      | exact rmF_cons (by simp only [List.mem_cons, not_or]; exact h)
      | (rw [if_neg h0]; exact rmF_cons (by simp only [List.mem_cons, not_or]; exact h))
theorem put_rm {L : List FactV} {f : FactV} (hA : AscF L) (h : f ∈ L) : putF (rmF L f) f = L := by
  induction L with
  | nil => cases h
  | cons a r ih =>
    have h' := List.pairwise_cons.1 hA
    by_cases e : a = f
    · subst e
      rw [rmF_cons (asc_not_mem hA)]
      cases r with
      | nil => rfl
      | cons b s =>
        have hb := h'.1 b (by simp)
        have hb' := ord_F.anti a b
        unfold putF
        rw [if_neg (by omega), if_neg (by omega)]
    · have hr : f ∈ r := by
        rcases List.mem_cons.1 h with h | h
        · exact absurd h.symm e
        · exact h
      rw [rmF_skip e]
      unfold putF
      rw [if_pos (h'.1 f hr), ih h'.2 hr]
/- the place of a fact -/
theorem findFrom_spec (f : FactV) : ∀ (L : List FactV) (n : Nat), (findFrom f n L = -1 ∧ f ∉ L) ∨ (∃ k, findFrom f n L = ((n + k : Nat) : Int) ∧ k < L.length ∧ L[k]? = some f ∧ ∀ j, j < k → L[j]? ≠ some f)
  | [], n => .inl ⟨rfl, by simp⟩
  | a :: r, n => by
    unfold findFrom
    cases hq : sameFB a f with
    | true =>
      have e := sameFB_iff.1 hq
      right
      exact ⟨0, by simp, by simp, by simp [e], fun j hj => by omega⟩
    | false =>
      have hne : ¬ a = f := fun e => by rw [sameFB_iff.2 e] at hq; cases hq
      rcases findFrom_spec f r (n + 1) with ⟨h1, h2⟩ | ⟨k, h1, h2, h3, h4⟩
      · left
        refine ⟨by simpa using h1, ?_⟩
        simp only [List.mem_cons, not_or]
        exact ⟨fun e => hne e.symm, h2⟩
      · right
        refine ⟨k + 1, ?_, by simp; omega, by simpa using h3, fun j hj => ?_⟩
        · simp only [Bool.false_eq_true, if_false]; rw [h1]; congr 1; omega
        · cases j with
          | zero => simpa using hne
          | succ j => simpa using h4 j (by omega)
theorem findB_neg {L : List FactV} {f : FactV} : findB L f < 0 ↔ f ∉ L := by
  unfold findB
  rcases findFrom_spec f L 0 with ⟨h1, h2⟩ | ⟨k, h1, h2, h3, -⟩
  · rw [h1]; simp [h2]
  · rw [h1]
    constructor
    · intro h; omega
    · intro h; exact absurd (List.mem_of_getElem? h3) h
theorem findB_cut {L : List FactV} {f : FactV} {k : Nat} (h : findB L f = (k : Int)) (hA : AscF L) : k < L.length ∧ L.take k ++ L.drop (k + 1) = rmF L f := by
  unfold findB at h
  rcases findFrom_spec f L 0 with ⟨h1, -⟩ | ⟨j, h1, h2, h3, h4⟩
  · omega
  · have e : j = k := by rw [h1] at h; omega
    subst e
    refine ⟨h2, ?_⟩
    clear h h1
    induction L generalizing j with
    | nil => simp at h2
    | cons a r ih =>
      have hA' := (List.pairwise_cons.1 hA).2
      cases j with
      | zero =>
        simp only [List.getElem?_cons_zero, Option.some.injEq] at h3
        subst h3
        rw [rmF_cons (asc_not_mem hA)]; rfl
      | succ j =>
        have h0 := h4 0 (by omega)
        simp only [List.getElem?_cons_zero, ne_eq, Option.some.injEq] at h0
        rw [rmF_skip h0]
        simp only [List.take_succ_cons, List.drop_succ_cons, List.cons_append, List.cons.injEq, true_and]
        exact ih hA' j (by simpa using h2) (by simpa using h3) (fun i hi => by simpa using h4 (i + 1) (by omega))
/- added, removed -/
def addOk (L : List FactV) (f : FactV) : Bool := (areFB L && isFactB f) && (decide (findB L f < 0) && decide (L.length < 24))
def addV (L : List FactV) (f : FactV) : List FactV := if addOk L f then putF L f else L
def remOk (L : List FactV) (f : FactV) : Bool := areFB L && decide (0 ≤ findB L f)
def remV (L : List FactV) (f : FactV) : List FactV := if remOk L f then rmF L f else L
/- the reference's rounds -/
def geF (f x : FactV) : Bool := !decide (cmpF x f < 0)
def putKF (L : List FactV) (f : FactV) (k : Nat) : List FactV := if (L.take k).any (geF f) then putF (L.take k) f else L.take k
def putDF (L : List FactV) (f : FactV) (k : Nat) : Bool := (L.take k).any (geF f)
theorem putF_all_lt : ∀ {A : List FactV} {f : FactV}, A.any (geF f) = false → putF A f = A ++ [f]
  | [], _, _ => rfl
  | a :: r, f, h => by
    simp only [List.any_cons, Bool.or_eq_false_iff, geF, Bool.not_eq_false', decide_eq_true_eq] at h
    unfold putF; rw [if_pos h.1, putF_all_lt h.2]; rfl
theorem putF_snoc_d : ∀ {A : List FactV} {f y : FactV}, A.any (geF f) = true → putF (A ++ [y]) f = putF A f ++ [y]
  | [], _, _, h => by simp at h
  | a :: r, f, y, h => by
    simp only [List.any_cons, Bool.or_eq_true] at h
    rw [List.cons_append]
    unfold putF
    by_cases hl : cmpF a f < 0
    · have : geF f a = false := by unfold geF; simp [hl]
      rw [this] at h
      rw [if_pos hl, if_pos hl, putF_snoc_d (by simpa using h)]; rfl
    · rw [if_neg hl, if_neg hl]; split <;> rfl
theorem putF_snoc_n {A : List FactV} {f y : FactV} (h : A.any (geF f) = false) (hy : ¬ cmpF y f < 0) : putF (A ++ [y]) f = if cmpF y f = 0 then A ++ [y] else A ++ [f, y] := by
  induction A with
  | nil => simp [putF, hy]
  | cons a r ih =>
    simp only [List.any_cons, Bool.or_eq_false_iff] at h
    have ha : cmpF a f < 0 := by have := h.1; unfold geF at this; simpa using this
    rw [List.cons_append]
    unfold putF
    rw [if_pos ha, ih h.2]
    split <;> rfl
theorem putKF_0 (L : List FactV) (f : FactV) : putKF L f 0 = [] := by simp [putKF]
theorem putDF_0 (L : List FactV) (f : FactV) : putDF L f 0 = false := by simp [putDF]
theorem putDF_succ {L : List FactV} {f : FactV} {k : Nat} (h : k < L.length) : putDF L f (k + 1) = (putDF L f k || geF f L[k]) := by
  unfold putDF; rw [List.take_succ_eq_append_getElem h, List.any_append]; simp
theorem putKF_d {L : List FactV} {f : FactV} {k : Nat} (h : k < L.length) (hd : putDF L f k = true) : putKF L f (k + 1) = putKF L f k ++ [L[k]] := by
  have h1 := putDF_succ (f := f) h
  rw [hd, Bool.true_or] at h1
  unfold putDF at hd h1
  unfold putKF
  rw [if_pos h1, if_pos hd, List.take_succ_eq_append_getElem h, putF_snoc_d hd]
theorem putKF_lt {L : List FactV} {f : FactV} {k : Nat} (h : k < L.length) (hd : putDF L f k = false) (hl : cmpF L[k] f < 0) : putKF L f (k + 1) = putKF L f k ++ [L[k]] ∧ putDF L f (k + 1) = false := by
  have h1 := putDF_succ (f := f) h
  have h2 : geF f L[k] = false := by unfold geF; simp [hl]
  rw [hd, h2] at h1
  refine ⟨?_, by simpa using h1⟩
  unfold putDF at hd h1
  unfold putKF
  rw [if_neg (by rw [h1]; simp), if_neg (by rw [hd]; simp), List.take_succ_eq_append_getElem h]
theorem putKF_ge {L : List FactV} {f : FactV} {k : Nat} (h : k < L.length) (hd : putDF L f k = false) (hl : ¬ cmpF L[k] f < 0) : putKF L f (k + 1) = (if cmpF L[k] f = 0 then putKF L f k ++ [L[k]] else putKF L f k ++ [f] ++ [L[k]]) ∧ putDF L f (k + 1) = true := by
  have h1 := putDF_succ (f := f) h
  have h2 : geF f L[k] = true := by unfold geF; simp [hl]
  rw [hd, h2] at h1
  refine ⟨?_, by simpa using h1⟩
  unfold putDF at hd h1
  have e1 : putKF L f (k + 1) = putF (L.take (k + 1)) f := by unfold putKF; rw [if_pos (by rw [h1]; rfl)]
  have e2 : putKF L f k = L.take k := by unfold putKF; rw [if_neg (by rw [hd]; simp)]
  rw [e1, e2, List.take_succ_eq_append_getElem h, putF_snoc_n hd hl]
  split <;> simp
theorem putDF_d {L : List FactV} {f : FactV} {k : Nat} (h : k < L.length) (hd : putDF L f k = true) : putDF L f (k + 1) = true := by rw [putDF_succ h, hd]; rfl
theorem putKF_end_d {L : List FactV} {f : FactV} {k : Nat} (h : L.length ≤ k) (hd : putDF L f k = true) : putKF L f k = putF L f := by
  unfold putDF at hd
  unfold putKF; rw [if_pos hd, List.take_of_length_le h]
theorem putKF_end_n {L : List FactV} {f : FactV} {k : Nat} (h : L.length ≤ k) (hd : putDF L f k = false) : putKF L f k ++ [f] = putF L f := by
  unfold putDF at hd
  unfold putKF; rw [if_neg (by rw [hd]; simp)]
  rw [List.take_of_length_le h] at hd ⊢
  rw [putF_all_lt hd]
theorem putKF_len (L : List FactV) (f : FactV) (k : Nat) : (putKF L f k).length ≤ k + 1 := by
  unfold putKF; split
  · have := putF_le (L.take k) f; simp at this; omega
  · simp; omega
/- the program's rounds -/
def gtF (f x : FactV) : Bool := decide (0 < cmpF x f)
def insKF (L : List FactV) (f : FactV) (k : Nat) : List FactV := if (L.take k).any (gtF f) then insF (L.take k) f else L.take k
def insDF (L : List FactV) (f : FactV) (k : Nat) : Bool := (L.take k).any (gtF f)
theorem insF_le (L : List FactV) (f : FactV) : (insF L f).length = L.length + 1 := by
  induction L with
  | nil => rfl
  | cons a r ih => unfold insF; split <;> simp [ih]
theorem insF_none : ∀ {A : List FactV} {f : FactV}, A.any (gtF f) = false → insF A f = A ++ [f]
  | [], _, _ => rfl
  | a :: r, f, h => by
    simp only [List.any_cons, Bool.or_eq_false_iff, gtF, decide_eq_false_iff_not] at h
    unfold insF; rw [if_neg h.1, insF_none h.2]; rfl
theorem insF_snoc_d : ∀ {A : List FactV} {f y : FactV}, A.any (gtF f) = true → insF (A ++ [y]) f = insF A f ++ [y]
  | [], _, _, h => by simp at h
  | a :: r, f, y, h => by
    simp only [List.any_cons, Bool.or_eq_true] at h
    rw [List.cons_append]
    unfold insF
    by_cases hl : 0 < cmpF a f
    · rw [if_pos hl, if_pos hl]; rfl
    · have : gtF f a = false := by unfold gtF; simpa using hl
      rw [this] at h
      rw [if_neg hl, if_neg hl, insF_snoc_d (by simpa using h)]; rfl
theorem insF_snoc_n {A : List FactV} {f y : FactV} (h : A.any (gtF f) = false) (hy : 0 < cmpF y f) : insF (A ++ [y]) f = A ++ [f, y] := by
  induction A with
  | nil => simp [insF, hy]
  | cons a r ih =>
    simp only [List.any_cons, Bool.or_eq_false_iff] at h
    have ha : ¬ 0 < cmpF a f := by have := h.1; unfold gtF at this; simpa using this
    rw [List.cons_append]
    unfold insF
    rw [if_neg ha, ih h.2]; rfl
theorem insKF_0 (L : List FactV) (f : FactV) : insKF L f 0 = [] := by simp [insKF]
theorem insDF_0 (L : List FactV) (f : FactV) : insDF L f 0 = false := by simp [insDF]
theorem insDF_succ {L : List FactV} {f : FactV} {k : Nat} (h : k < L.length) : insDF L f (k + 1) = (insDF L f k || gtF f L[k]) := by
  unfold insDF; rw [List.take_succ_eq_append_getElem h, List.any_append]; simp
theorem insKF_d {L : List FactV} {f : FactV} {k : Nat} (h : k < L.length) (hd : insDF L f k = true) : insKF L f (k + 1) = insKF L f k ++ [L[k]] ∧ insDF L f (k + 1) = true := by
  have h1 := insDF_succ (f := f) h
  rw [hd, Bool.true_or] at h1
  refine ⟨?_, h1⟩
  unfold insDF at hd h1
  unfold insKF
  rw [if_pos h1, if_pos hd, List.take_succ_eq_append_getElem h, insF_snoc_d hd]
theorem insKF_le {L : List FactV} {f : FactV} {k : Nat} (h : k < L.length) (hd : insDF L f k = false) (hl : ¬ 0 < cmpF L[k] f) : insKF L f (k + 1) = insKF L f k ++ [L[k]] ∧ insDF L f (k + 1) = false := by
  have h1 := insDF_succ (f := f) h
  have h2 : gtF f L[k] = false := by unfold gtF; simpa using hl
  rw [hd, h2] at h1
  refine ⟨?_, by simpa using h1⟩
  unfold insDF at hd h1
  unfold insKF
  rw [if_neg (by rw [h1]; simp), if_neg (by rw [hd]; simp), List.take_succ_eq_append_getElem h]
theorem insKF_gt {L : List FactV} {f : FactV} {k : Nat} (h : k < L.length) (hd : insDF L f k = false) (hl : 0 < cmpF L[k] f) : insKF L f (k + 1) = insKF L f k ++ [f] ++ [L[k]] ∧ insDF L f (k + 1) = true := by
  have h1 := insDF_succ (f := f) h
  have h2 : gtF f L[k] = true := by unfold gtF; simpa using hl
  rw [hd, h2] at h1
  refine ⟨?_, by simpa using h1⟩
  unfold insDF at hd h1
  unfold insKF
  rw [if_pos (by rw [h1]; rfl), if_neg (by rw [hd]; simp), List.take_succ_eq_append_getElem h, insF_snoc_n hd hl]
  simp
theorem insKF_end_d {L : List FactV} {f : FactV} {k : Nat} (h : L.length ≤ k) (hd : insDF L f k = true) : insKF L f k = insF L f := by
  unfold insDF at hd
  unfold insKF; rw [if_pos hd, List.take_of_length_le h]
theorem insKF_end_n {L : List FactV} {f : FactV} {k : Nat} (h : L.length ≤ k) (hd : insDF L f k = false) : insKF L f k ++ [f] = insF L f := by
  unfold insDF at hd
  unfold insKF; rw [if_neg (by rw [hd]; simp)]
  rw [List.take_of_length_le h] at hd ⊢
  rw [insF_none hd]
theorem insKF_len (L : List FactV) (f : FactV) (k : Nat) : (insKF L f k).length ≤ k + 1 := by
  unfold insKF; split
  · rw [insF_le]; simp; omega
  · simp; omega
theorem sameFsB_refl : ∀ L : List FactV, sameFsB L L = true
  | [] => rfl
  | a :: r => by unfold sameFsB; rw [sameFB_iff.2 rfl, sameFsB_refl r]; rfl
end Go.Proofs.YtgpgeegpaaoakaaDoor
