/- Plain laws of bindings: a pattern that matches a fact is this fact under the binding; an instance of a pattern is matched by it and covered by it; no condition: nothing of the program is named here but the plain functions of the texts that are imported. -/
import Derived.Test.YtpkphijfncbbiaaPlT
namespace Go.Proofs.Ytpkphijfncbbiaa
open Go.RowKit
set_option linter.unusedVariables false
def AscP (b : Prs) : Prop := b.Pairwise fun p q => ltS p.1 q.1 = true
theorem isBindB_iff (b : Prs) : isBindB b = true ↔ b.length ≤ 6 ∧ (∀ p ∈ b, isVarB p.1 = true ∧ isAtomB p.2 = true) ∧ AscP b := by
  constructor
  · intro h
    refine ⟨isBindB_len h, fun p hp => ?_, ?_⟩
    · obtain ⟨k, hk, rfl⟩ := List.mem_iff_getElem.1 hp
      exact isBindB_at h hk
    · have hs : ∀ k (hk : k + 1 < b.length), ltS b[k].1 b[k + 1].1 = true := fun k hk => by
        have h1 := isBindB_at h hk
        unfold isBindB at h
        simp only [Bool.and_eq_true, decide_eq_true_eq, List.all_eq_true, List.mem_range] at h
        have h2 := h.2 (k + 1) hk
        rw [okAt_next hk h1.1 h1.2] at h2
        exact (bless_lt _ _).symm.trans h2
      unfold AscP
      rw [List.pairwise_iff_getElem]
      intro i j hi hj hij
      obtain ⟨d, rfl⟩ : ∃ d, j = i + 1 + d := ⟨j - i - 1, by omega⟩
      induction d with
      | zero => exact hs i hj
      | succ d ih => exact ltS_tr (ih (by omega) (by omega)) (hs (i + 1 + d) (by omega))
  · rintro ⟨h1, h2, h3⟩
    unfold isBindB
    rw [Bool.and_eq_true, decide_eq_true_eq, List.all_eq_true]
    refine ⟨h1, fun k hk => ?_⟩
    rw [List.mem_range] at hk
    cases k with
    | zero => exact okAt_first hk (h2 _ (List.getElem_mem _)).1 (h2 _ (List.getElem_mem _)).2
    | succ k =>
      rw [okAt_next hk (h2 _ (List.getElem_mem _)).1 (h2 _ (List.getElem_mem _)).2]
      unfold AscP at h3
      rw [List.pairwise_iff_getElem] at h3
      exact (bless_lt _ _).trans (h3 k (k + 1) (by omega) hk (by omega))
theorem findP_mem : ∀ {b : Prs}, AscP b → ∀ {v u : ByteArray}, findP b v = some u ↔ (v, u) ∈ b
  | [], _, v, u => by simp [findP]
  | p :: r, hA, v, u => by
    have hA' := List.pairwise_cons.1 hA
    unfold findP
    rw [List.find?_cons]
    by_cases e : p.1 = v
    · rw [decide_eq_true e]
      simp only [Option.map_some, Option.some.injEq, List.mem_cons]
      constructor
      · intro h; exact .inl (by rw [← e, ← h])
      · rintro (h | h)
        · rw [← h]
        · have := hA'.1 _ h
          rw [e, ltS_irr] at this; cases this
    · rw [decide_eq_false e]
      have ih := findP_mem hA'.2 (v := v) (u := u)
      unfold findP at ih
      simp only [List.mem_cons]
      rw [ih]
      constructor
      · exact .inr
      · rintro (h | h)
        · exact absurd (by rw [← h]) e
        · exact h
theorem var_atom {s : ByteArray} (h : isVarB s = true) : isAtomB s = false := by
  cases ha : isAtomB s with
  | false => rfl
  | true =>
    exfalso
    unfold isVarB at h
    simp only [Bool.and_eq_true, decide_eq_true_eq] at h
    obtain ⟨⟨h1, h2⟩, -⟩ := h
    obtain ⟨r, hr⟩ := hd_of s (by omega)
    have h3 := atom_chars ha s[0] (by rw [hr]; simp)
    rw [hr] at h2
    simp only [decide_eq_true_eq] at h2
    simp only [atomCh, inB, Bool.or_eq_true, Bool.and_eq_true, decide_eq_true_eq] at h3
    omega
theorem term_var {s : ByteArray} (h : isTermB s = true) (h' : isAtomB s = false) : isVarB s = true := by
  unfold isTermB at h; rw [h'] at h; simpa using h
theorem value_var {b : Prs} {v u : ByteArray} (hA : AscP b) (hv : isVarB v = true) : valueB b v = some u ↔ (v, u) ∈ b := by
  unfold valueB
  rw [if_neg (by rw [var_atom hv]; simp), if_pos hv]
  exact findP_mem hA
theorem insP_mem (b : Prs) (v u : ByteArray) (p : ByteArray × ByteArray) : p ∈ insP b v u ↔ p = (v, u) ∨ p ∈ b := by
  induction b with
  | nil => simp [insP]
  | cons x r ih =>
    unfold insP
    split
    · simp
    · simp only [List.mem_cons, ih]
      constructor
      · rintro (h | h | h) <;> simp [h]
      · rintro (h | h | h) <;> simp [h]
theorem gtS_lt {a v : ByteArray} (h : gtS a v = true) : ltS v a = true := by
  unfold gtS at h
  simp only [Bool.not_eq_true', Bool.or_eq_false_iff] at h
  rw [bless_lt] at h
  cases hq : ltS v a with
  | true => rfl
  | false =>
    have e := ltS_tri h.1 hq
    subst e; simp at h
theorem gtS_no {a v : ByteArray} (h : gtS a v = false) (hne : a ≠ v) : ltS a v = true := by
  unfold gtS at h
  simp only [Bool.not_eq_false', Bool.or_eq_true] at h
  rw [bless_lt] at h
  rcases h with h | h
  · exact h
  · exact absurd (str_eq_t h) hne
theorem insP_asc {b : Prs} {v u : ByteArray} (hA : AscP b) (h : ∀ p ∈ b, p.1 ≠ v) : AscP (insP b v u) := by
  induction b with
  | nil => simp [insP, AscP]
  | cons x r ih =>
    have hA' := List.pairwise_cons.1 hA
    unfold insP
    split
    · rename_i hg
      have hl := gtS_lt hg
      refine List.pairwise_cons.2 ⟨fun p hp => ?_, hA⟩
      rcases List.mem_cons.1 hp with rfl | hp
      · exact hl
      · exact ltS_tr hl (hA'.1 p hp)
    · rename_i hg
      have hl := gtS_no (by simpa using hg) (h x (by simp))
      refine List.pairwise_cons.2 ⟨fun p hp => ?_, ih hA'.2 fun p hp => h p (by simp [hp])⟩
      rcases (insP_mem r v u p).1 hp with rfl | hp
      · exact hl
      · exact hA'.1 p hp
theorem extV_spec {b b' : Prs} {v u : ByteArray} (h : extV b v u = some b') : isBindB b = true ∧ isVarB v = true ∧ isAtomB u = true ∧ isBindB b' = true ∧ (v, u) ∈ b' ∧ (∀ p ∈ b, p ∈ b') ∧ (∀ p ∈ b', p ∈ b ∨ p = (v, u)) := by
  unfold extV at h
  split at h
  · rename_i hg
    simp only [Bool.and_eq_true] at hg
    obtain ⟨⟨h1, h2⟩, h3⟩ := hg
    obtain ⟨hl, hp, hA⟩ := (isBindB_iff b).1 h1
    refine ⟨h1, h2, h3, ?_⟩
    split at h
    · rename_i hok
      split at h
      · rename_i he
        simp only [Option.some.injEq] at h
        subst h
        refine ⟨h1, ?_, fun p hp => hp, fun p hp => .inl hp⟩
        unfold valOk at hok
        unfold valS at he
        cases hq : valueB b v with
        | none => rw [hq] at hok; cases hok
        | some y =>
          rw [hq] at he
          simp only [Option.getD_some] at he
          subst he
          exact (value_var hA h2).1 hq
      · cases h
    · rename_i hok
      split at h
      · rename_i hlt
        simp only [Option.some.injEq] at h
        subst h
        have hno : ∀ p ∈ b, p.1 ≠ v := fun p hp e => hok (by
          have hq : (v, p.2) ∈ b := by rw [← e]; exact hp
          unfold valOk; rw [(value_var hA h2).2 hq]; rfl)
        refine ⟨(isBindB_iff _).2 ⟨by rw [insP_len]; omega, fun p hp' => ?_, insP_asc hA hno⟩, (insP_mem _ _ _ _).2 (.inl rfl), fun p hp => (insP_mem _ _ _ _).2 (.inr hp), fun p hp => ((insP_mem _ _ _ _).1 hp).symm⟩
        rcases (insP_mem b v u p).1 hp' with rfl | hp'
        · exact ⟨h2, h3⟩
        · exact hp p hp'
      · cases h
  · cases h
theorem extV_in {b : Prs} {v u : ByteArray} (h1 : isBindB b = true) (h2 : isVarB v = true) (h3 : isAtomB u = true) (h : (v, u) ∈ b) : extV b v u = some b := by
  have hA := ((isBindB_iff b).1 h1).2.2
  have hv := (value_var hA h2).2 h
  have hok : valOk b v = true := by unfold valOk; rw [hv]; rfl
  have hs : valS b v = u := by unfold valS; rw [hv]; rfl
  unfold extV
  rw [h1, h2, h3, hok, hs]; simp
/-- what each place of a matched pattern says of the binding -/
def Plc (b : Prs) (a x : ByteArray) : Prop := (isAtomB a = true → a = x) ∧ (isAtomB a = false → (a, x) ∈ b)
theorem mtL_spec : ∀ {ps xs : List ByteArray} {b b' : Prs}, mtL ps xs b = some b' → isBindB b = true → ps.length = xs.length →
    isBindB b' = true ∧ (∀ p ∈ b, p ∈ b') ∧ (∀ p ∈ b', p ∈ b ∨ (p.1 ∈ ps ∧ isVarB p.1 = true)) ∧ (∀ q ∈ ps.zip xs, Plc b' q.1 q.2)
  | [], [], b, b', h, hb, _ => by
    simp only [mtL, Option.some.injEq] at h
    subst h
    exact ⟨hb, fun p hp => hp, fun p hp => .inl hp, fun q hq => by simp at hq⟩
  | [], _ :: _, b, b', h, hb, hl => by simp at hl
  | _ :: _, [], b, b', h, hb, hl => by simp at hl
  | a :: ps, x :: xs, b, b', h, hb, hl => by
    unfold mtL at h
    have hl' : ps.length = xs.length := by simpa using hl
    split at h
    · rename_i ha
      split at h
      · rename_i he
        obtain ⟨h1, h2, h3, h4⟩ := mtL_spec h hb hl'
        refine ⟨h1, h2, fun p hp => ?_, fun q hq => ?_⟩
        · rcases h3 p hp with h | h
          · exact .inl h
          · exact .inr ⟨by simp [h.1], h.2⟩
        · rw [List.zip_cons_cons, List.mem_cons] at hq
          rcases hq with rfl | hq
          · exact ⟨fun _ => he, fun hn => by rw [ha] at hn; cases hn⟩
          · exact h4 q hq
      · cases h
    · rename_i ha
      cases hx : extV b a x with
      | none => rw [hx] at h; cases h
      | some c =>
        rw [hx] at h
        obtain ⟨e1, e2, e3, e4, e5, e6, e7⟩ := extV_spec hx
        obtain ⟨h1, h2, h3, h4⟩ := mtL_spec h e4 hl'
        refine ⟨h1, fun p hp => h2 p (e6 p hp), fun p hp => ?_, fun q hq => ?_⟩
        · rcases h3 p hp with h | h
          · rcases e7 p h with h | rfl
            · exact .inl h
            · exact .inr ⟨by simp, e2⟩
          · exact .inr ⟨by simp [h.1], h.2⟩
        · rw [List.zip_cons_cons, List.mem_cons] at hq
          rcases hq with rfl | hq
          · exact ⟨fun h => absurd h ha, fun _ => h2 _ e5⟩
          · exact h4 q hq
theorem mtL_again : ∀ {ps xs : List ByteArray} {b : Prs}, isBindB b = true → ps.length = xs.length → (∀ a ∈ ps, isTermB a = true) → (∀ x ∈ xs, isAtomB x = true) → (∀ q ∈ ps.zip xs, Plc b q.1 q.2) → mtL ps xs b = some b
  | [], [], _, _, _, _, _, _ => rfl
  | [], _ :: _, _, _, hl, _, _, _ => by simp at hl
  | _ :: _, [], _, _, hl, _, _, _ => by simp at hl
  | a :: ps, x :: xs, b, hb, hl, ht, hx, h => by
    have ih := mtL_again (ps := ps) (xs := xs) (b := b) hb (by simpa using hl) (fun a ha => ht a (by simp [ha])) (fun x h => hx x (by simp [h])) fun q hq => h q (by rw [List.zip_cons_cons]; simp [hq])
    have h0 := h (a, x) (by rw [List.zip_cons_cons]; simp)
    unfold mtL
    cases ha : isAtomB a with
    | true => rw [if_pos rfl, if_pos (h0.1 ha), ih]
    | false =>
      rw [if_neg (by simp), extV_in hb (term_var (ht a (by simp)) ha) (hx x (by simp)) (h0.2 ha)]
      exact ih
theorem plc_value {b : Prs} {a x : ByteArray} (hA : AscP b) (ht : isTermB a = true) (h : Plc b a x) : valueB b a = some x := by
  cases ha : isAtomB a with
  | true => unfold valueB; rw [if_pos ha, h.1 ha]
  | false => exact (value_var hA (term_var ht ha)).2 (h.2 ha)
theorem map_zip {α β : Type} {g : α → β} : ∀ {ps : List α} {xs : List β}, ps.length = xs.length → (∀ q ∈ ps.zip xs, g q.1 = q.2) → ps.map g = xs
  | [], [], _, _ => rfl
  | [], _ :: _, hl, _ => by simp at hl
  | _ :: _, [], hl, _ => by simp at hl
  | a :: ps, x :: xs, hl, h => by
    rw [List.map_cons, h (a, x) (by rw [List.zip_cons_cons]; simp), map_zip (by simpa using hl) fun q hq => h q (by rw [List.zip_cons_cons]; simp [hq])]
theorem mem_zip {α β : Type} : ∀ {ps : List α} {xs : List β}, ps.length = xs.length → ∀ {a : α}, a ∈ ps → ∃ x, (a, x) ∈ ps.zip xs
  | [], _, _, _, h => by simp at h
  | _ :: _, [], hl, _, _ => by simp at hl
  | b :: ps, x :: xs, hl, a, h => by
    rcases List.mem_cons.1 h with rfl | h
    · exact ⟨x, by rw [List.zip_cons_cons]; simp⟩
    · obtain ⟨y, hy⟩ := mem_zip (xs := xs) (by simpa using hl) h
      exact ⟨y, by rw [List.zip_cons_cons]; simp [hy]⟩
theorem mem_zipR {α β : Type} {ps : List α} {xs : List β} {a : α} {x : β} (h : (a, x) ∈ ps.zip xs) : a ∈ ps ∧ x ∈ xs := List.of_mem_zip h
/-- all that the law of matched patterns says -/
theorem mtV_law {p f : FactV} {b x : Prs} (h : mtV p f b = some x) : insV p x = some f ∧ mtV p f x = some x ∧ isBindB x = true ∧ (∀ q ∈ b, valOk x q.1 = true ∧ valS x q.1 = q.2) ∧
    (∀ l : List ByteArray, (∀ v ∈ p.args, isVarB v = true → v ∈ l) → (∀ q ∈ b, q.1 ∈ l) → resP x l = x) := by
  unfold mtV at h
  split at h
  · rename_i hg
    simp only [Bool.and_eq_true, decide_eq_true_eq] at hg
    obtain ⟨⟨g1, g2⟩, g3, g4, g5⟩ := hg
    obtain ⟨k1, k2, k3, k4⟩ := mtL_spec h g3 g5
    have hA := ((isBindB_iff x).1 k1).2.2
    have hbv := ((isBindB_iff b).1 g3).2.1
    have hxv : ∀ q ∈ p.args.zip f.args, valueB x q.1 = some q.2 := fun q hq => plc_value hA (isPat_arg g1 _ (mem_zipR (show (q.1, q.2) ∈ _ from hq)).1) (k4 q hq)
    refine ⟨?_, ?_, k1, ?_, ?_⟩
    · have h1 : p.args.all (valOk x) = true := by
        rw [List.all_eq_true]
        intro a ha
        obtain ⟨y, hy⟩ := mem_zip g5 ha
        unfold valOk; rw [hxv _ hy]; rfl
      have h2 : p.args.map (valS x) = f.args := map_zip g5 fun q hq => by unfold valS; rw [hxv q hq]; rfl
      unfold insV
      rw [g1, k1, h1, h2, g4]; rfl
    · unfold mtV
      rw [g1, g2, k1, decide_eq_true g4, decide_eq_true g5]
      exact mtL_again k1 g5 (isPat_arg g1) (isFact_arg g2) k4
    · intro q hq
      have hv := (value_var hA (hbv q hq).1 (u := q.2)).2 (k2 q hq)
      exact ⟨by unfold valOk; rw [hv]; rfl, by unfold valS; rw [hv]; rfl⟩
    · intro l h1 h2
      unfold resP
      rw [List.filter_eq_self]
      intro q hq
      have hm : q.1 ∈ l := by
        rcases k3 q hq with h | ⟨h, h'⟩
        · exact h2 q h
        · exact h1 _ h h'
      unfold hasB
      rw [List.any_eq_true]
      exact ⟨q.1, hm, by simp⟩
  · cases h
theorem fact_pat {f : FactV} (h : isFactB f = true) : isPatB f = true := by
  have ha := isFact_arg h
  unfold isFactB at h
  simp only [Bool.and_eq_true] at h
  unfold isPatB
  rw [h.1.1, h.1.2, Bool.and_eq_true]
  exact ⟨rfl, List.all_eq_true.2 fun p hp => atom_term (ha p hp)⟩
/-- all that the law of instances says, but the cover -/
theorem insV_law {p f : FactV} {b : Prs} (h : insV p b = some f) : mtV p f b = some b ∧ isFactB f = true ∧ isPatB p = true ∧ f.rel = p.rel ∧ f.args = p.args.map (valS b) := by
  unfold insV at h
  split at h
  · rename_i hg
    simp only [Bool.and_eq_true] at hg
    obtain ⟨g1, g2⟩ := hg
    split at h
    · rename_i hok
      simp only [Option.some.injEq] at h
      subst h
      rw [List.all_eq_true] at hok
      obtain ⟨-, hbv, hA⟩ := (isBindB_iff b).1 g2
      have hval : ∀ a ∈ p.args, ∃ u, valueB b a = some u ∧ isAtomB u = true ∧ Plc b a u := fun a ha => by
        have h1 := hok a ha
        unfold valOk at h1
        cases hq : valueB b a with
        | none => rw [hq] at h1; cases h1
        | some u =>
          refine ⟨u, rfl, ?_⟩
          cases haa : isAtomB a with
          | true =>
            unfold valueB at hq
            rw [if_pos haa] at hq
            simp only [Option.some.injEq] at hq
            subst hq
            exact ⟨haa, fun _ => rfl, fun hn => by rw [haa] at hn; cases hn⟩
          | false =>
            have hv := term_var (isPat_arg g1 a ha) haa
            have hm := (value_var hA hv).1 hq
            exact ⟨(hbv _ hm).2, fun hn => (by rw [haa] at hn; cases hn), fun _ => hm⟩
      have hf : isFactB ⟨p.rel, p.args.map (valS b)⟩ = true := by
        unfold isPatB at g1
        simp only [Bool.and_eq_true, decide_eq_true_eq] at g1
        unfold isFactB
        rw [g1.1.1]
        simp only [Bool.true_and, Bool.and_eq_true, decide_eq_true_eq, List.length_map, List.all_eq_true, List.mem_map]
        refine ⟨g1.1.2, ?_⟩
        rintro y ⟨a, ha, rfl⟩
        obtain ⟨u, h1, h2, -⟩ := hval a ha
        unfold valS; rw [h1]; exact h2
      refine ⟨?_, hf, g1, rfl, rfl⟩
      unfold mtV
      rw [g1, hf, g2]
      simp only [decide_true, List.length_map, Bool.and_self, if_true]
      refine mtL_again g2 (by simp) (isPat_arg g1) (isFact_arg hf) fun q hq => ?_
      rw [List.zip_map_right, List.mem_map] at hq
      obtain ⟨⟨a, a'⟩, hz, rfl⟩ := hq
      have e : a = a' := by
        have := List.mem_iff_getElem.1 hz
        obtain ⟨i, hi, he⟩ := this
        rw [List.getElem_zip] at he
        injection he with e1 e2
        rw [← e1, ← e2]
      subst e
      obtain ⟨u, h1, -, h3⟩ := hval a (mem_zipR hz).1
      have : valS b a = u := by unfold valS; rw [h1]; rfl
      simp only [Prod.map]
      rw [this]; exact h3
    · cases h
  · cases h
end Go.Proofs.Ytpkphijfncbbiaa
