/- Plain laws of bindings: a variable put in, a fact matched, a pattern filled, pairs kept, terms renamed; no condition: nothing of the program is named here but the plain functions of the texts that are imported. -/
import Derived.Test.YtojgkodffmdnpaaPl3
import Derived.Test.YtojgkodffmdnpaaValueOf
import Derived.Test.YtojgkodffmdnpaaIsFact
namespace Go.Proofs.Ytojgkodffmdnpaa
open Go.RowKit
abbrev Prs := List (ByteArray × ByteArray)
theorem bless_lt (a b : ByteArray) : Op.bytesLess a.toList b.toList = ltS a b := by unfold ltS; rw [ByteArray.toList_eq, ByteArray.toList_eq]
/- greater, on texts, as the walk writes it -/
def gtS (a b : ByteArray) : Bool := !(Op.bytesLess a.toList b.toList || a.toList == b.toList)
theorem isVarB_size {s : ByteArray} (h : isVarB s = true) : s.size ≤ 9 := by
  unfold isVarB at h
  simp only [Bool.and_eq_true, decide_eq_true_eq] at h
  have h1 := h.1.1
  have h2 := (isAtomB_size h.2).2
  simp at h2
  omega
theorem isTermB_size {s : ByteArray} (h : isTermB s = true) : s.size ≤ 9 := by
  unfold isTermB at h
  simp only [Bool.or_eq_true] at h
  rcases h with h | h
  · have := (isAtomB_size h).2; omega
  · exact isVarB_size h
theorem isBindB_at {b : Prs} (h : isBindB b = true) {k : Nat} (hk : k < b.length) : isVarB b[k].1 = true ∧ isAtomB b[k].2 = true := by
  unfold isBindB at h
  simp only [Bool.and_eq_true, decide_eq_true_eq, List.all_eq_true, List.mem_range] at h
  have h1 := h.2 k hk
  constructor
  · cases hq : isVarB b[k].1 with
    | true => rfl
    | false => rw [okAt_var hk hq] at h1; cases h1
  · cases hq : isAtomB b[k].2 with
    | true => rfl
    | false => rw [okAt_val hk hq] at h1; cases h1
theorem isBindB_len {b : Prs} (h : isBindB b = true) : b.length ≤ 6 := by
  unfold isBindB at h
  simp only [Bool.and_eq_true, decide_eq_true_eq] at h
  exact h.1
theorem psum_le {b : Prs} {n : Nat} (h : ∀ p ∈ b, psz1 p ≤ n) : psum b ≤ b.length * n := by
  induction b with
  | nil => simp [psum]
  | cons p r ih =>
    have h1 := h p (by simp)
    have h2 := ih fun q hq => h q (by simp [hq])
    simp only [psum, List.length_cons, Nat.add_mul, Nat.one_mul]; omega
theorem isBindB_psz {b : Prs} (h : isBindB b = true) : psz b ≤ 108 := by
  have hl := isBindB_len h
  have hs : psum b ≤ b.length * 17 := psum_le fun p hp => by
    obtain ⟨k, hk, rfl⟩ := List.mem_iff_getElem.1 hp
    have h1 := isBindB_at h hk
    have h2 := isVarB_size h1.1
    have h3 := (isAtomB_size h1.2).2
    unfold psz1; omega
  have : b.length * 17 ≤ 6 * 17 := Nat.mul_le_mul_right _ hl
  unfold psz; omega
/- a pair put in -/
def insP : Prs → ByteArray → ByteArray → Prs
  | [], v, u => [(v, u)]
  | x :: r, v, u => if gtS x.1 v then (v, u) :: x :: r else x :: insP r v u
theorem insP_len (b : Prs) (v u : ByteArray) : (insP b v u).length = b.length + 1 := by
  induction b with
  | nil => rfl
  | cons x r ih => unfold insP; split <;> simp [ih]
theorem insP_psz (b : Prs) (v u : ByteArray) : psz (insP b v u) = psz b + 1 + v.size + u.size := by
  have h : psum (insP b v u) = psum b + v.size + u.size := by
    induction b with
    | nil => simp [insP, psum, psz1]
    | cons x r ih => unfold insP; split <;> simp only [psum, psz1, ih] <;> omega
  unfold psz; rw [h, insP_len]; omega
def insK (b : Prs) (v u : ByteArray) (k : Nat) : Prs := if (b.take k).any (fun x => gtS x.1 v) then insP (b.take k) v u else b.take k
def insD (b : Prs) (v : ByteArray) (k : Nat) : Bool := (b.take k).any (fun x => gtS x.1 v)
theorem insP_none : ∀ {b : Prs} {v u : ByteArray}, b.any (fun x => gtS x.1 v) = false → insP b v u = b ++ [(v, u)]
  | [], _, _, _ => rfl
  | a :: r, v, u, h => by
    simp only [List.any_cons, Bool.or_eq_false_iff] at h
    unfold insP; rw [if_neg (by rw [h.1]; simp), insP_none h.2]; rfl
theorem insP_snoc_d : ∀ {b : Prs} {v u : ByteArray} {y : ByteArray × ByteArray}, b.any (fun x => gtS x.1 v) = true → insP (b ++ [y]) v u = insP b v u ++ [y]
  | [], _, _, _, h => by simp at h
  | a :: r, v, u, y, h => by
    simp only [List.any_cons, Bool.or_eq_true] at h
    rw [List.cons_append]
    unfold insP
    cases hl : gtS a.1 v with
    | true => simp
    | false =>
      rw [hl] at h
      simp only [Bool.false_eq_true, if_false, List.cons_append]
      rw [insP_snoc_d (by simpa using h)]
theorem insP_snoc_n {b : Prs} {v u : ByteArray} {y : ByteArray × ByteArray} (h : b.any (fun x => gtS x.1 v) = false) (hy : gtS y.1 v = true) : insP (b ++ [y]) v u = b ++ [(v, u), y] := by
  induction b with
  | nil => simp [insP, hy]
  | cons a r ih =>
    simp only [List.any_cons, Bool.or_eq_false_iff] at h
    rw [List.cons_append]
    unfold insP
    rw [if_neg (by rw [h.1]; simp), ih h.2]; rfl
theorem insK_0 (b : Prs) (v u : ByteArray) : insK b v u 0 = [] := by simp [insK]
theorem insD_0 (b : Prs) (v : ByteArray) : insD b v 0 = false := by simp [insD]
theorem insD_succ {b : Prs} {v : ByteArray} {k : Nat} (h : k < b.length) : insD b v (k + 1) = (insD b v k || gtS b[k].1 v) := by
  unfold insD; rw [List.take_succ_eq_append_getElem h, List.any_append]; simp
theorem insK_d {b : Prs} {v u : ByteArray} {k : Nat} (h : k < b.length) (hd : insD b v k = true) : insK b v u (k + 1) = insK b v u k ++ [b[k]] := by
  have h1 := insD_succ (v := v) h
  rw [hd, Bool.true_or] at h1
  unfold insD at hd h1
  unfold insK
  rw [if_pos h1, if_pos hd, List.take_succ_eq_append_getElem h, insP_snoc_d hd]
theorem insK_le {b : Prs} {v u : ByteArray} {k : Nat} (h : k < b.length) (hd : insD b v k = false) (hl : gtS b[k].1 v = false) : insK b v u (k + 1) = insK b v u k ++ [b[k]] := by
  have h1 := insD_succ (v := v) h
  rw [hd, hl] at h1
  unfold insD at hd h1
  unfold insK
  rw [if_neg (by rw [h1]; simp), if_neg (by rw [hd]; simp), List.take_succ_eq_append_getElem h]
theorem insK_gt {b : Prs} {v u : ByteArray} {k : Nat} (h : k < b.length) (hd : insD b v k = false) (hl : gtS b[k].1 v = true) : insK b v u (k + 1) = insK b v u k ++ [(v, u)] ++ [b[k]] := by
  have h1 := insD_succ (v := v) h
  rw [hd, hl] at h1
  unfold insD at hd h1
  unfold insK
  rw [if_pos (by rw [h1]; rfl), if_neg (by rw [hd]; simp), List.take_succ_eq_append_getElem h, insP_snoc_n hd hl]
  simp
theorem insK_end_d {b : Prs} {v u : ByteArray} {k : Nat} (h : b.length ≤ k) (hd : insD b v k = true) : insK b v u k = insP b v u := by
  unfold insD at hd
  unfold insK; rw [if_pos hd, List.take_of_length_le h]
theorem insK_end_n {b : Prs} {v u : ByteArray} {k : Nat} (h : b.length ≤ k) (hd : insD b v k = false) : insK b v u k ++ [(v, u)] = insP b v u := by
  unfold insD at hd
  unfold insK; rw [if_neg (by rw [hd]; simp)]
  rw [List.take_of_length_le h] at hd ⊢
  rw [insP_none hd]
theorem insK_len (b : Prs) (v u : ByteArray) (k : Nat) : (insK b v u k).length ≤ k + 1 := by
  unfold insK; split
  · rw [insP_len]; simp; omega
  · simp; omega
/- a variable is given a value -/
def extV (b : Prs) (v u : ByteArray) : Option Prs :=
  if (isBindB b && isVarB v) && isAtomB u then
    (if valOk b v then (if valS b v = u then some b else none) else if b.length < 6 then some (insP b v u) else none)
  else none
def oL (o : Option Prs) : Prs := o.getD []
theorem extV_psz {b b' : Prs} {v u : ByteArray} (h : extV b v u = some b') : psz b' ≤ 126 := by
  unfold extV at h
  split at h
  · rename_i hg
    simp only [Bool.and_eq_true] at hg
    have hp := isBindB_psz hg.1.1
    have h1 := isVarB_size hg.1.2
    have h2 := (isAtomB_size hg.2).2
    split at h
    · split at h
      · simp at h; subst h; omega
      · cases h
    · split at h
      · simp at h; subst h; rw [insP_psz]; omega
      · cases h
  · cases h
/- a fact is matched -/
def mtL : List ByteArray → List ByteArray → Prs → Option Prs
  | a :: ps, x :: xs, b => if isAtomB a then (if a = x then mtL ps xs b else none) else (match extV b a x with | some b' => mtL ps xs b' | none => none)
  | _, _, b => some b
def mtV (p f : FactV) (b : Prs) : Option Prs :=
  if (isPatB p && isFactB f) && (isBindB b && (decide (p.rel = f.rel) && decide (p.args.length = f.args.length))) then mtL p.args f.args b else none
theorem mtL_end (p f : List ByteArray) (b : Prs) (k : Nat) (h : p.length ≤ k) : mtL (p.drop k) (f.drop k) b = some b := by
  rw [List.drop_of_length_le h]; cases f.drop k <;> rfl
theorem mtL_at {p f : List ByteArray} {k : Nat} (b : Prs) (h : k < p.length) (h' : k < f.length) : mtL (p.drop k) (f.drop k) b =
    if isAtomB p[k] then (if p[k] = f[k] then mtL (p.drop (k + 1)) (f.drop (k + 1)) b else none) else (match extV b p[k] f[k] with | some b' => mtL (p.drop (k + 1)) (f.drop (k + 1)) b' | none => none) := by
  rw [List.drop_eq_getElem_cons h, List.drop_eq_getElem_cons h']; rfl
theorem mtL_psz : ∀ {p f : List ByteArray} {b b' : Prs}, mtL p f b = some b' → psz b ≤ 126 → psz b' ≤ 126
  | a :: ps, x :: xs, b, b', h, hz => by
    unfold mtL at h
    split at h
    · split at h
      · exact mtL_psz h hz
      · cases h
    · cases he : extV b a x with
      | none => rw [he] at h; cases h
      | some c => rw [he] at h; exact mtL_psz h (extV_psz he)
  | [], _, b, b', h, hz => by simp [mtL] at h; subst h; exact hz
  | _ :: _, [], b, b', h, hz => by simp [mtL] at h; subst h; exact hz
theorem mtV_psz {p f : FactV} {b b' : Prs} (h : mtV p f b = some b') : psz b' ≤ 126 := by
  unfold mtV at h
  split at h
  · rename_i hg
    simp only [Bool.and_eq_true] at hg
    have := isBindB_psz hg.2.1
    exact mtL_psz h (by omega)
  · cases h
theorem psz_len (b : Prs) : b.length ≤ psz b := by unfold psz; omega
theorem oL_ext_len (b : Prs) (v u : ByteArray) : (oL (extV b v u)).length ≤ 126 := by
  cases h : extV b v u with
  | none => simp [oL]
  | some c => have := extV_psz h; have := psz_len c; simp [oL]; omega
theorem oL_mt_len (p f : FactV) (b : Prs) : (oL (mtV p f b)).length ≤ 126 := by
  cases h : mtV p f b with
  | none => simp [oL]
  | some c => have := mtV_psz h; have := psz_len c; simp [oL]; omega
/- a pattern is filled -/
def fV0 : FactV := ⟨⟨#[]⟩, []⟩
def insV (p : FactV) (b : Prs) : Option FactV := if isPatB p && isBindB b then (if p.args.all (valOk b) then some ⟨p.rel, p.args.map (valS b)⟩ else none) else none
def oF (o : Option FactV) : FactV := o.getD fV0
/- pairs are kept -/
def hasB (l : List ByteArray) (s : ByteArray) : Bool := l.any fun x => x.toList == s.toList
def resP (b : Prs) (l : List ByteArray) : Prs := b.filter fun p => hasB l p.1
theorem resP_len (b : Prs) (l : List ByteArray) : (resP b l).length ≤ b.length := List.length_filter_le _ _
theorem filter_take_t {α : Type} {L : List α} {p : α → Bool} {k : Nat} (h : k < L.length) (hp : p L[k] = true) : (L.take (k + 1)).filter p = (L.take k).filter p ++ [L[k]] := by
  rw [List.take_succ_eq_append_getElem h, List.filter_append]; simp [hp]
theorem filter_take_f {α : Type} {L : List α} {p : α → Bool} {k : Nat} (h : k < L.length) (hp : p L[k] = false) : (L.take (k + 1)).filter p = (L.take k).filter p := by
  rw [List.take_succ_eq_append_getElem h, List.filter_append]; simp [hp]
theorem filter_take_len {α : Type} (L : List α) (p : α → Bool) (k : Nat) : ((L.take k).filter p).length ≤ k := by
  have := List.length_filter_le p (L.take k); simp at this; omega
theorem any_take_f {α : Type} {L : List α} {p : α → Bool} {k : Nat} (h : k < L.length) (ht : (L.take k).any p = false) (hp : p L[k] = false) : (L.take (k + 1)).any p = false := by
  rw [List.take_succ_eq_append_getElem h, List.any_append, ht]; simp [hp]
theorem any_at_t {α : Type} {L : List α} {p : α → Bool} {k : Nat} (h : k < L.length) (hp : p L[k] = true) : L.any p = true := List.any_eq_true.2 ⟨_, List.getElem_mem h, hp⟩
/- terms are renamed -/
def renT (b : Prs) (t : ByteArray) : ByteArray := (findP b t).getD t
def renC (x : CondV) (b : Prs) : CondV := ⟨x.kind, ⟨x.pat.rel, x.pat.args.map (renT b)⟩, renT b x.left, renT b x.right⟩
theorem map_take_succ {α β : Type} {L : List α} {g : α → β} {k : Nat} (h : k < L.length) : (L.take (k + 1)).map g = (L.take k).map g ++ [g L[k]] := by
  rw [List.take_succ_eq_append_getElem h, List.map_append]; rfl
end Go.Proofs.Ytojgkodffmdnpaa
