/- Plain laws of the order of atoms: one total order; numbers are read from what is written; no condition: nothing of the program is named here but the plain functions of the texts that are imported. -/
import Derived.Test.YtpkphijfncbbiaaCmp
import Derived.Test.YtpkphijfncbbiaaPl3
import Derived.Lib.ItoaNum
namespace Go.Proofs.Ytpkphijfncbbiaa
set_option linter.unusedVariables false
structure Ord3 {α : Type} (c : α → α → Int) : Prop where
  zero : ∀ a b, c a b = 0 ↔ a = b
  anti : ∀ a b, c a b = - c b a
  tr : ∀ a b d, c a b ≤ 0 → c b d ≤ 0 → c a d ≤ 0
theorem Ord3.self {α : Type} {c : α → α → Int} (h : Ord3 c) (a : α) : c a a = 0 := (h.zero a a).2 rfl
theorem Ord3.lt_tr {α : Type} {c : α → α → Int} (h : Ord3 c) {a b d : α} (h1 : c a b < 0) (h2 : c b d < 0) : c a d < 0 := by
  have h3 := h.tr a b d (by omega) (by omega)
  by_cases e : c a d = 0
  · have e' := (h.zero a d).1 e
    subst e'
    have := h.anti a b
    omega
  · omega
theorem numVal_text {s : ByteArray} {m : Nat} (h : numVal s = some m) : Lib.decDigits m = s.data.toList := by
  unfold numVal at h
  split at h
  · split at h
    · split at h
      · rename_i hd; simp only [Option.some.injEq] at h; subst h; exact hd
      · cases h
    · cases h
  · cases h
theorem num_of {s : ByteArray} (h : numOk s = true) : ∃ m : Nat, numVal s = some m ∧ numV s = m := by
  unfold numOk at h
  cases hq : numVal s with
  | none => rw [hq] at h; cases h
  | some m => exact ⟨m, rfl, by unfold numV; rw [hq]⟩
theorem num_inj {a b : ByteArray} (h : numOk a = true) (h' : numOk b = true) (e : numV a = numV b) : a = b := by
  obtain ⟨m, h1, h2⟩ := num_of h
  obtain ⟨n, h3, h4⟩ := num_of h'
  rw [h2, h4] at e
  have e : m = n := by omega
  subst e
  exact data_inj ((numVal_text h1).symm.trans (numVal_text h3))
theorem cmpS_lt (a b : ByteArray) : cmpS a b = if ltS a b then -1 else if a = b then 0 else 1 := by
  rw [cmpS_eq, ByteArray.toList_eq, ByteArray.toList_eq]
  unfold ltS
  by_cases h : a = b
  · subst h; simp
  · have h2 : ¬ a.data = b.data := fun e => h (data_inj (by rw [e]))
    simp [h, h2]
theorem ord_S : Ord3 cmpS := by
  refine ⟨fun a b => ?_, fun a b => ?_, fun a b d h1 h2 => ?_⟩
  · rw [cmpS_lt]
    by_cases h : a = b
    · subst h; simp [ltS_irr]
    · cases ltS a b <;> simp [h]
  · rw [cmpS_lt, cmpS_lt]
    by_cases h : a = b
    · subst h; simp [ltS_irr]
    · have h' : ¬ b = a := fun e => h e.symm
      cases h1 : ltS a b
      · cases h2 : ltS b a
        · exact absurd (ltS_tri h1 h2) h
        · simp [h]
      · rw [ltS_asym h1]; simp [h']
  · have key : ∀ x y : ByteArray, cmpS x y ≤ 0 ↔ (ltS x y = true ∨ x = y) := fun x y => by
      rw [cmpS_lt]
      by_cases h : x = y
      · subst h; simp [ltS_irr]
      · cases ltS x y <;> simp [h]
    rw [key] at h1 h2 ⊢
    rcases h1 with h1 | rfl
    · rcases h2 with h2 | rfl
      · exact .inl (ltS_tr h1 h2)
      · exact .inl h1
    · exact h2
theorem cmpI_cases (a b : Int) : (a < b ∧ cmpI a b = -1) ∨ (a = b ∧ cmpI a b = 0) ∨ (b < a ∧ cmpI a b = 1) := by
  unfold cmpI
  by_cases h1 : a < b
  · simp [h1]
  · by_cases h2 : b < a
    · simp [h1, h2]
    · have : a = b := by omega
      simp [this]
theorem ord_A : Ord3 cmpA := by
  refine ⟨fun a b => ?_, fun a b => ?_, fun a b d h1 h2 => ?_⟩
  · unfold cmpA
    cases h1 : numOk a <;> cases h2 : numOk b <;> simp only [if_true, Bool.false_eq_true, if_false]
    · exact ord_S.zero a b
    · constructor
      · intro h; cases h
      · intro h; subst h; rw [h1] at h2; cases h2
    · constructor
      · intro h; cases h
      · intro h; subst h; rw [h1] at h2; cases h2
    · constructor
      · intro h
        rcases cmpI_cases (numV a) (numV b) with ⟨-, e⟩ | ⟨e, -⟩ | ⟨-, e⟩
        · omega
        · exact num_inj h1 h2 e
        · omega
      · intro h; subst h
        rcases cmpI_cases (numV a) (numV a) with ⟨e, -⟩ | ⟨-, e⟩ | ⟨e, -⟩ <;> omega
  · unfold cmpA
    cases h1 : numOk a <;> cases h2 : numOk b <;> simp only [if_true, Bool.false_eq_true, if_false]
    · exact ord_S.anti a b
    · rfl
    · rcases cmpI_cases (numV a) (numV b) with ⟨e, e1⟩ | ⟨e, e1⟩ | ⟨e, e1⟩ <;> rcases cmpI_cases (numV b) (numV a) with ⟨e', e2⟩ | ⟨e', e2⟩ | ⟨e', e2⟩ <;> omega
  · unfold cmpA at h1 h2 ⊢
    cases q1 : numOk a <;> cases q2 : numOk b <;> cases q3 : numOk d <;> rw [q1, q2] at h1 <;> rw [q2, q3] at h2 <;> simp only [if_true, Bool.false_eq_true, if_false] at h1 h2 ⊢
    · exact ord_S.tr a b d h1 h2
    all_goals first
      | omega
      | (rcases cmpI_cases (numV a) (numV b) with ⟨e, e1⟩ | ⟨e, e1⟩ | ⟨e, e1⟩ <;> rcases cmpI_cases (numV b) (numV d) with ⟨e', e2⟩ | ⟨e', e2⟩ | ⟨e', e2⟩ <;> rcases cmpI_cases (numV a) (numV d) with ⟨e'', e3⟩ | ⟨e'', e3⟩ | ⟨e'', e3⟩ <;> omega)
theorem cmpS_vals (a b : ByteArray) : cmpS a b = -1 ∨ cmpS a b = 0 ∨ cmpS a b = 1 := by
  rw [cmpS_lt]; split
  · simp
  · split <;> simp
theorem cmpA_vals (a b : ByteArray) : (a = b ∧ cmpA a b = 0 ∧ cmpA b a = 0) ∨ (a ≠ b ∧ cmpA a b = 1 ∧ cmpA b a = -1) ∨ (a ≠ b ∧ cmpA a b = -1 ∧ cmpA b a = 1) := by
  have hv : cmpA a b = -1 ∨ cmpA a b = 0 ∨ cmpA a b = 1 := by
    unfold cmpA
    split
    · split
      · rcases cmpI_cases (numV a) (numV b) with ⟨-, e⟩ | ⟨-, e⟩ | ⟨-, e⟩ <;> rw [e] <;> simp
      · simp
    · split
      · simp
      · exact cmpS_vals a b
  have hz := ord_A.zero a b
  have ha := ord_A.anti a b
  rcases hv with h | h | h
  · exact .inr (.inr ⟨fun e => by rw [hz.2 e] at h; omega, h, by omega⟩)
  · exact .inl ⟨hz.1 h, h, by omega⟩
  · exact .inr (.inl ⟨fun e => by rw [hz.2 e] at h; omega, h, by omega⟩)
/- what is written is read -/
theorem decFrom_snoc : ∀ (l : List UInt8) (acc : Nat) (b : UInt8), Lib.decFrom acc (l ++ [b]) = match Lib.decFrom acc l with | some n => (match Lib.digitVal b with | some d => some (n * 10 + d) | none => none) | none => none
  | [], acc, b => by
    simp only [List.nil_append, Lib.decFrom]
    cases Lib.digitVal b <;> rfl
  | a :: r, acc, b => by
    simp only [List.cons_append, Lib.decFrom]
    cases hd : Lib.digitVal a with
    | none => rfl
    | some d => exact decFrom_snoc r _ b
theorem digit_val (d : Nat) (h : d < 10) : Lib.digitVal (UInt8.ofNat (48 + d)) = some d := by
  have e : (UInt8.ofNat (48 + d)).toNat = 48 + d := by rw [UInt8.toNat_ofNat']; omega
  unfold Lib.digitVal
  rw [e, if_pos (by omega)]
  congr 1; omega
theorem dec_round (u : Nat) : Lib.decFrom 0 (Lib.decDigits u) = some u := by
  induction u using Nat.strongRecOn with
  | ind u ih =>
    by_cases h : u < 10
    · rw [Lib.decDigits_one h]
      simp only [Lib.decFrom, digit_val u h]
      simp
    · rw [digs_snoc u h, decFrom_snoc, ih (u / 10) (by omega), digit_val _ (by omega)]
      simp only [Option.some.injEq]
      omega
theorem dec_len (k u : Nat) (h : u < 10 ^ (k + 1)) : (Lib.decDigits u).length ≤ k + 1 := by
  induction k generalizing u with
  | zero => rw [Lib.decDigits_one (by simpa using h)]; simp
  | succ k ih =>
    by_cases h1 : u < 10
    · rw [Lib.decDigits_one h1]; simp
    · rw [digs_snoc u h1, List.length_append]
      have := ih (u / 10) (by rw [Nat.pow_succ] at h; omega)
      simp; omega
theorem itoa_text (n : Int) : (0 ≤ n ∧ n ≤ 9999 ∧ numOk ⟨(Lib.itoa n).toArray⟩ = true ∧ numV ⟨(Lib.itoa n).toArray⟩ = n) ∨ (¬ (0 ≤ n ∧ n ≤ 9999) ∧ numOk ⟨(Lib.itoa n).toArray⟩ = false) := by
  have hsz : ∀ l : List UInt8, (⟨l.toArray⟩ : ByteArray).size = l.length := fun l => by simp [ByteArray.size]
  by_cases h0 : 0 ≤ n
  · obtain ⟨u, rfl⟩ : ∃ u : Nat, n = u := ⟨n.toNat, by omega⟩
    rw [Lib.itoa_nonneg]
    have hr := dec_round u
    have hlt := Lib.decFrom_lt _ _ _ hr
    by_cases h1 : u ≤ 9999
    · have hl := dec_len 3 u (by omega)
      have hp : 1 ≤ (Lib.decDigits u).length := by
        cases hq : Lib.decDigits u with
        | nil => rw [hq] at hr; simp [Lib.decFrom] at hr; rw [Lib.decDigits_one (by omega)] at hq; simp at hq
        | cons => simp
      have hv : numVal ⟨(Lib.decDigits u).toArray⟩ = some u := num_is (by rw [hsz]; exact hp) (by rw [hsz]; exact hl) (by simpa using hr) (by simp)
      obtain ⟨e1, e2⟩ := num_some hv
      exact .inl ⟨h0, by omega, e2.symm, e1.symm⟩
    · refine .inr ⟨by omega, ?_⟩
      have hl : ¬ (Lib.decDigits u).length ≤ 4 := fun hl => by
        have : 10 ^ (Lib.decDigits u).length ≤ 10 ^ 4 := Nat.pow_le_pow_right (by omega) hl
        omega
      exact (num_none (num_len (by rw [hsz]; omega))).2.symm
  · obtain ⟨u, rfl⟩ : ∃ u : Nat, n = -(u : Int) := ⟨(-n).toNat, by omega⟩
    rw [Lib.itoa_neg u (by omega)]
    refine .inr ⟨by omega, ?_⟩
    refine (num_none (num_no ?_)).2.symm
    simp [Lib.decFrom, Lib.digitVal]
theorem name_num {s : ByteArray} (h : isNameB s = true) : numOk s = false := by
  cases hq : numOk s with
  | false => rfl
  | true =>
    exfalso
    obtain ⟨m, hm, -⟩ := num_of hq
    have ht := numVal_text hm
    unfold isNameB at h
    simp only [Bool.and_eq_true] at h
    obtain ⟨h1, h2⟩ := h
    cases hl : s.data.toList with
    | nil => rw [hl] at h2; cases h2
    | cons c r =>
      rw [hl] at h2 ht
      simp only [decide_eq_true_eq] at h2
      have := decDigits_dig m c (by rw [ht]; simp)
      omega
theorem var_no_atom {s : ByteArray} (h : isVarB s = true) : isAtomB s = false := by
  cases ha : isAtomB s with
  | false => rfl
  | true =>
    exfalso
    unfold isVarB at h
    simp only [Bool.and_eq_true, decide_eq_true_eq] at h
    obtain ⟨⟨h1, h2⟩, -⟩ := h
    obtain ⟨r, hr⟩ := hd_of s (by omega)
    unfold isAtomB at ha
    simp only [Bool.and_eq_true, List.all_eq_true] at ha
    have h3 := ha.2 s[0] (by rw [hr]; simp)
    rw [hr] at h2
    simp only [decide_eq_true_eq] at h2
    simp only [atomCh, inB, Bool.or_eq_true, Bool.and_eq_true, decide_eq_true_eq] at h3
    omega
end Go.Proofs.Ytpkphijfncbbiaa
