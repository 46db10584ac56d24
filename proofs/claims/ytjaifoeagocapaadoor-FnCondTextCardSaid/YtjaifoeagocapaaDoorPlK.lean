/- Plain laws of written conditions: what is written is read again by the program's way, unless a test's left term is the word that begins an absence; no condition: nothing of the program is named here but the plain functions of the texts that are imported. -/
import Derived.Test.YtjaifoeagocapaaDoorPlT
import Derived.Test.YtjaifoeagocapaaDoorCond
namespace Go.Proofs.YtjaifoeagocapaaDoor
set_option linter.unusedVariables false
def tNot : ByteArray := ⟨#[110, 111, 116, 32]⟩
def sg3 : ByteArray := ⟨#[32, 61, 32]⟩
def sg4 : ByteArray := ⟨#[32, 33, 61, 32]⟩
def sg5 : ByteArray := ⟨#[32, 60, 32]⟩
def sgK (k : Int) : ByteArray := if k = 3 then sg3 else if k = 4 then sg4 else sg5
def formC (x : CondV) : ByteArray := if isCondB x then (if x.kind = 1 then formP x.pat else if x.kind = 2 then tNot ++ formP x.pat else x.left ++ sgK x.kind ++ x.right) else ⟨#[]⟩
def zC : CondV := ⟨0, fV0, ⟨#[]⟩, ⟨#[]⟩⟩
def oC (o : Option CondV) : CondV := o.getD zC
/-- the program's candidate: a pattern, an absence, or the last sign that divides the text -/
def cutC (s : ByteArray) (k : Int) (sg : List UInt8) (c : CondV) : CondV :=
  if (Lib.cut s.data.toList sg).2.2 then ⟨k, fV0, ⟨(Lib.cut s.data.toList sg).1.toArray⟩, ⟨(Lib.cut s.data.toList sg).2.1.toArray⟩⟩ else c
def candC (s : ByteArray) : CondV :=
  match parseB isPatB s with
  | some p => ⟨1, p, ⟨#[]⟩, ⟨#[]⟩⟩
  | none =>
    if Lib.hasPrefix s.data.toList [110, 111, 116, 32] then ⟨2, oF (parseB isPatB ⟨(Lib.trimPrefix s.data.toList [110, 111, 116, 32]).toArray⟩), ⟨#[]⟩, ⟨#[]⟩⟩
    else cutC s 5 [32, 60, 32] (cutC s 4 [32, 33, 61, 32] (cutC s 3 [32, 61, 32] zC))
def parseC (s : ByteArray) : Option CondV := if isCondB (candC s) && decide (formC (candC s) = s) then some (candC s) else none
theorem empty_of {s : ByteArray} (h : s.toList.isEmpty = true) : s = ⟨#[]⟩ := by
  rw [ByteArray.toList_eq] at h
  apply data_inj
  simpa using h
theorem isCond_low {x : CondV} (h : isCondB x = true) (hk : x.kind = 1 ∨ x.kind = 2) : isPatB x.pat = true ∧ x.left = ⟨#[]⟩ ∧ x.right = ⟨#[]⟩ := by
  unfold isCondB at h
  rw [if_pos (by rcases hk with hk | hk <;> simp [hk])] at h
  simp only [Bool.and_eq_true] at h
  exact ⟨h.1.1, empty_of h.1.2, empty_of h.2⟩
theorem isCond_high {x : CondV} (h : isCondB x = true) (h1 : x.kind ≠ 1) (h2 : x.kind ≠ 2) : (x.kind = 3 ∨ x.kind = 4 ∨ x.kind = 5) ∧ isTermB x.left = true ∧ isTermB x.right = true ∧ x.pat = fV0 := by
  unfold isCondB at h
  rw [if_neg (by simp [h1, h2])] at h
  split at h
  · rename_i hk
    simp only [Bool.and_eq_true, Bool.or_eq_true, beq_iff_eq] at h hk
    refine ⟨by rcases hk with (hk | hk) | hk <;> simp [hk], h.1.1, h.1.2, ?_⟩
    have hz := h.2
    unfold zeroB at hz
    simp only [Bool.and_eq_true, beq_iff_eq] at hz
    have e1 := empty_of hz.1
    have e2 : x.pat.args = [] := List.eq_nil_of_length_eq_zero (by have := hz.2; omega)
    cases hx : x.pat with
    | mk r a => rw [hx] at e1 e2; simp only at e1 e2; rw [e1, e2]; rfl
  · cases h
theorem cond_ext {x y : CondV} (h1 : x.kind = y.kind) (h2 : x.pat = y.pat) (h3 : x.left = y.left) (h4 : x.right = y.right) : x = y := by cases x; cases y; simp_all
/-- an instance of a sign (a space, a sign that is no letter, ..) begins at a space behind which that sign stands -/
theorem occ_head {s : List UInt8} {c : UInt8} {t : List UInt8} {j : Nat} (h : Lib.occAt s (32 :: c :: t) j = true) : ∃ r, s.drop j = 32 :: c :: r := by
  unfold Lib.occAt at h
  obtain ⟨r, hr⟩ := List.isPrefixOf_iff_prefix.1 h
  exact ⟨t ++ r, hr.symm⟩
theorem cut_at {l r t : List UInt8} {c : UInt8} (hl : (32 : UInt8) ∉ l) : Lib.cut (l ++ 32 :: c :: t ++ r) (32 :: c :: t) = (l, r, true) := by
  have hi : Lib.index (l ++ 32 :: c :: t ++ r) (32 :: c :: t) = (l.length : Int) := by
    refine Lib.index_first (by simp) ?_ ?_
    · unfold Lib.occAt
      rw [List.append_assoc, List.drop_left]
      exact List.isPrefixOf_iff_prefix.2 ⟨r, rfl⟩
    · intro j hj
      cases ho : Lib.occAt (l ++ 32 :: c :: t ++ r) (32 :: c :: t) j with
      | false => rfl
      | true =>
        exfalso
        obtain ⟨q, hq⟩ := occ_head ho
        rw [List.append_assoc, List.drop_append_of_le_length (by omega), List.drop_eq_getElem_cons hj] at hq
        injection hq with e1 e2
        exact hl (e1 ▸ List.getElem_mem hj)
  unfold Lib.cut
  rw [hi, if_pos (by omega)]
  simp
/-- at most two spaces, and what stands behind them: no other sign is in -/
theorem cut_no {l m r : List UInt8} {c d : UInt8} {t : List UInt8} (hl : (32 : UInt8) ∉ l) (hm : (32 : UInt8) ∉ m) (hr : (32 : UInt8) ∉ r) (hc : ∀ q, m ++ 32 :: r ≠ c :: q) (hd : ∀ q, r ≠ c :: q) : Lib.cut (l ++ 32 :: (m ++ 32 :: r)) (32 :: c :: t) = (l ++ 32 :: (m ++ 32 :: r), [], false) := by
  have hi : Lib.index (l ++ 32 :: (m ++ 32 :: r)) (32 :: c :: t) = -1 := by
    refine Lib.index_none fun j hj => ?_
    cases ho : Lib.occAt (l ++ 32 :: (m ++ 32 :: r)) (32 :: c :: t) j with
    | false => rfl
    | true =>
      exfalso
      obtain ⟨q, hq⟩ := occ_head ho
      rcases Nat.lt_trichotomy j l.length with h1 | h1 | h1
      · rw [List.drop_append_of_le_length (by omega), List.drop_eq_getElem_cons h1] at hq
        injection hq with e1 e2
        exact hl (e1 ▸ List.getElem_mem h1)
      · rw [h1, List.drop_left] at hq
        injection hq with e1 e2
        exact hc q e2
      · obtain ⟨i, rfl⟩ : ∃ i, j = l.length + (i + 1) := ⟨j - l.length - 1, by omega⟩
        rw [← List.drop_drop, List.drop_left, List.drop_succ_cons] at hq
        rcases Nat.lt_trichotomy i m.length with h2 | h2 | h2
        · rw [List.drop_append_of_le_length (by omega), List.drop_eq_getElem_cons h2] at hq
          injection hq with e1 e2
          exact hm (e1 ▸ List.getElem_mem h2)
        · rw [h2, List.drop_left] at hq
          injection hq with e1 e2
          exact hd q e2
        · obtain ⟨k, rfl⟩ : ∃ k, i = m.length + (k + 1) := ⟨i - m.length - 1, by omega⟩
          rw [← List.drop_drop, List.drop_left, List.drop_succ_cons] at hq
          have : (32 : UInt8) ∈ r.drop k := by rw [hq]; simp
          exact hr (List.mem_of_mem_drop this)
  unfold Lib.cut
  rw [hi]; rfl
theorem term_no32 {s : ByteArray} (h : isTermB s = true) : (32 : UInt8) ∉ s.data.toList := not_in h (by decide) (by decide)
theorem term_hd {s : ByteArray} (h : isTermB s = true) {c : UInt8} (h1 : c ≠ 63) (h2 : atomCh c = false) : ∀ q, s.data.toList ≠ c :: q := fun q e => not_in h h1 h2 (by rw [e]; simp)
theorem parse_no40 (ok : FactV → Bool) {s : ByteArray} (h : (40 : UInt8) ∉ s.data.toList) : parseB ok s = none := by
  have hs : spB s tLp = [s] := by
    apply map_data_inj
    rw [spB_data, show tLp.data.toList = [40] from rfl]
    exact split_no h
  unfold parseB partV; rw [hs]
theorem split_uniq {c : UInt8} : ∀ {a b r t : List UInt8}, c ∉ a → c ∉ b → a ++ c :: r = b ++ c :: t → a = b
  | [], [], _, _, _, _, _ => rfl
  | [], b :: s, _, _, _, h, e => by injection e with e1 e2; exact absurd (by rw [e1]; simp) h
  | a :: s, [], _, _, h, _, e => by injection e with e1 e2; exact absurd (by rw [← e1]; simp) h
  | a :: s, b :: u, _, _, h, h', e => by
    injection e with e1 e2
    simp only [List.mem_cons, not_or] at h h'
    rw [e1, split_uniq h.2 h'.2 e2]
theorem mk_toList (l : List UInt8) : (⟨l.toArray⟩ : ByteArray).data.toList = l := by simp
/-- the candidate of what is written -/
theorem cand_form {x : CondV} (h : isCondB x = true) (hn : x.left.data.toList ≠ [110, 111, 116]) : candC (formC x) = x := by
  by_cases h1 : x.kind = 1
  · obtain ⟨hp, hl, hr⟩ := isCond_low h (.inl h1)
    have hf : formC x = formP x.pat := by unfold formC; rw [h, if_pos rfl, if_pos h1]
    unfold candC
    rw [hf, parse_formP, hp]
    exact cond_ext h1.symm rfl hl.symm hr.symm
  · by_cases h2 : x.kind = 2
    · obtain ⟨hp, hl, hr⟩ := isCond_low h (.inr h2)
      have hf : formC x = tNot ++ formP x.pat := by unfold formC; rw [h, if_pos rfl, if_neg h1, if_pos h2]
      have hfp : formP x.pat = fmtF x.pat := by unfold formP; rw [hp]; rfl
      have hn : parseB isPatB (tNot ++ formP x.pat) = none := by
        have e : tNot ++ formP x.pat = fmtF ⟨tNot ++ x.pat.rel, x.pat.args⟩ := by
          rw [hfp]; apply data_inj
          unfold fmtF
          simp only [ByteArray.data_append, Array.toList_append, List.append_assoc]
        have hr40 : (40 : UInt8) ∉ (tNot ++ x.pat.rel).data.toList := by
          rw [ByteArray.data_append, Array.toList_append, List.mem_append, not_or]
          exact ⟨by simp [tNot], not_in (atom_term (isPat_rel hp)) (by decide) (by decide)⟩
        rw [e]
        unfold parseB
        rw [partV_fmt (f := ⟨tNot ++ x.pat.rel, x.pat.args⟩) hr40 fun p hp' =>
          have ht := isPat_arg hp p hp'
          ⟨not_in ht (by decide) (by decide), not_in ht (by decide) (by decide), term_pos ht⟩]
        have hno : isPatB ⟨tNot ++ x.pat.rel, x.pat.args⟩ = false := by
          cases hq : isPatB ⟨tNot ++ x.pat.rel, x.pat.args⟩ with
          | false => rfl
          | true =>
            exfalso
            have := atom_chars (isPat_rel hq) 32 (by simp [tNot])
            simp [atomCh, inB] at this
        simp [hno]
      have hd : (tNot ++ formP x.pat).data.toList = [110, 111, 116, 32] ++ (formP x.pat).data.toList := by rw [ByteArray.data_append, Array.toList_append]; rfl
      have hpre : Lib.hasPrefix (tNot ++ formP x.pat).data.toList [110, 111, 116, 32] = true := by
        rw [hd]; unfold Lib.hasPrefix; exact List.isPrefixOf_iff_prefix.2 ⟨_, rfl⟩
      unfold candC
      rw [hf, hn]
      simp only [hpre, if_true]
      have ht : (⟨(Lib.trimPrefix (tNot ++ formP x.pat).data.toList [110, 111, 116, 32]).toArray⟩ : ByteArray) = formP x.pat := by
        apply data_inj
        unfold Lib.trimPrefix
        rw [hpre, if_pos rfl, hd]; simp
      rw [ht, parse_formP, hp]
      exact cond_ext h2.symm rfl hl.symm hr.symm
    · obtain ⟨hk, hl, hr, hz⟩ := isCond_high h h1 h2
      have hf : formC x = x.left ++ sgK x.kind ++ x.right := by unfold formC; rw [h, if_pos rfl, if_neg h1, if_neg h2]
      have hl32 := term_no32 hl
      have hr32 := term_no32 hr
      have h40 : (40 : UInt8) ∉ (x.left ++ sgK x.kind ++ x.right).data.toList := by
        simp only [ByteArray.data_append, Array.toList_append, List.mem_append, not_or]
        refine ⟨⟨not_in hl (by decide) (by decide), ?_⟩, not_in hr (by decide) (by decide)⟩
        unfold sgK sg3 sg4 sg5
        split
        · decide
        · split <;> decide
      have hsp : ∃ m, (sgK x.kind).data.toList = 32 :: (m ++ [32]) ∧ (32 : UInt8) ∉ m := by
        unfold sgK
        split
        · exact ⟨[61], rfl, by decide⟩
        · split
          · exact ⟨[33, 61], rfl, by decide⟩
          · exact ⟨[60], rfl, by decide⟩
      have hpre : Lib.hasPrefix (x.left ++ sgK x.kind ++ x.right).data.toList [110, 111, 116, 32] = false := by
        cases hq : Lib.hasPrefix (x.left ++ sgK x.kind ++ x.right).data.toList [110, 111, 116, 32] with
        | false => rfl
        | true =>
          exfalso
          obtain ⟨m, hm, -⟩ := hsp
          unfold Lib.hasPrefix at hq
          obtain ⟨q, hq⟩ := List.isPrefixOf_iff_prefix.1 hq
          simp only [ByteArray.data_append, Array.toList_append] at hq
          rw [hm, List.append_assoc] at hq
          exact hn (split_uniq (a := x.left.data.toList) (b := [110, 111, 116]) hl32 (by decide) (by simpa using hq.symm))
      have hd : ∀ g : List UInt8, (sgK x.kind).data.toList = g → (x.left ++ sgK x.kind ++ x.right).data.toList = x.left.data.toList ++ g ++ x.right.data.toList := fun g hg => by
        simp only [ByteArray.data_append, Array.toList_append]; rw [hg]
      have mkl : ∀ b : ByteArray, (⟨b.data.toList.toArray⟩ : ByteArray) = b := fun b => by cases b; simp
      unfold candC
      rw [hf, parse_no40 _ h40, hpre]
      simp only [Bool.false_eq_true, if_false]
      have nx : ∀ c : UInt8, c ≠ 63 → atomCh c = false → ∀ q, x.right.data.toList ≠ c :: q := fun c a b => term_hd hr a b
      rcases hk with hk | hk | hk
      · have g : (sgK x.kind).data.toList = [32, 61, 32] := by unfold sgK; rw [if_pos hk]; rfl
        have e := hd _ g
        have c3 := cut_at (l := x.left.data.toList) (r := x.right.data.toList) (c := 61) (t := [32]) hl32
        have c4 := cut_no (l := x.left.data.toList) (m := [61]) (r := x.right.data.toList) (c := 33) (d := 0) (t := [61, 32]) hl32 (by decide) hr32 (fun q hq => by simp at hq) (nx 33 (by decide) (by decide))
        have c5 := cut_no (l := x.left.data.toList) (m := [61]) (r := x.right.data.toList) (c := 60) (d := 0) (t := [32]) hl32 (by decide) hr32 (fun q hq => by simp at hq) (nx 60 (by decide) (by decide))
        have e' : (x.left ++ sgK x.kind ++ x.right).data.toList = x.left.data.toList ++ 32 :: ([61] ++ 32 :: x.right.data.toList) := by rw [e]; simp
        unfold cutC
        rw [e', c5, c4, ← e', e, c3]
        simp only [Bool.false_eq_true, if_false, if_true, mkl]
        exact cond_ext hk.symm hz.symm rfl rfl
      · have g : (sgK x.kind).data.toList = [32, 33, 61, 32] := by unfold sgK; rw [if_neg (by omega), if_pos hk]; rfl
        have e := hd _ g
        have c4 := cut_at (l := x.left.data.toList) (r := x.right.data.toList) (c := 33) (t := [61, 32]) hl32
        have c5 := cut_no (l := x.left.data.toList) (m := [33, 61]) (r := x.right.data.toList) (c := 60) (d := 0) (t := [32]) hl32 (by decide) hr32 (fun q hq => by simp at hq) (nx 60 (by decide) (by decide))
        have e' : (x.left ++ sgK x.kind ++ x.right).data.toList = x.left.data.toList ++ 32 :: ([33, 61] ++ 32 :: x.right.data.toList) := by rw [e]; simp
        unfold cutC
        rw [e', c5, ← e', e, c4]
        simp only [Bool.false_eq_true, if_false, if_true, mkl]
        exact cond_ext hk.symm hz.symm rfl rfl
      · have g : (sgK x.kind).data.toList = [32, 60, 32] := by unfold sgK; rw [if_neg (by omega), if_neg (by omega)]; rfl
        have e := hd _ g
        have c5 := cut_at (l := x.left.data.toList) (r := x.right.data.toList) (c := 60) (t := [32]) hl32
        unfold cutC
        rw [e, c5]
        simp only [if_true, mkl]
        exact cond_ext hk.symm hz.symm rfl rfl
theorem cand_empty : isCondB (candC ⟨#[]⟩) = false := by
  unfold candC
  rw [parse_empty]
  rfl
theorem parse_formC {x : CondV} (hn : x.left.data.toList ≠ [110, 111, 116]) : parseC (formC x) = if isCondB x then some x else none := by
  cases h : isCondB x with
  | false =>
    have e : formC x = ⟨#[]⟩ := by unfold formC; rw [h]; rfl
    unfold parseC
    rw [e, cand_empty]; rfl
  | true =>
    have e := cand_form h hn
    unfold parseC
    rw [e, h]; simp
theorem formC_size0 (x : CondV) : (formC x).size = 0 ↔ isCondB x = false := by
  unfold formC
  cases h : isCondB x with
  | false => simp [ByteArray.size]
  | true =>
    refine ⟨fun e => ?_, fun e => by cases e⟩
    simp only [if_true] at e
    split at e
    · rename_i h1
      have := (formP_size0 _).1 e
      rw [(isCond_low h (.inl h1)).1] at this; cases this
    · split at e
      · rw [ByteArray.size_append] at e
        have : tNot.size = 4 := rfl
        omega
      · rename_i h1 h2
        have := term_pos (isCond_high h h1 h2).2.1
        rw [ByteArray.size_append, ByteArray.size_append] at e
        omega
end Go.Proofs.YtjaifoeagocapaaDoor
