/- Plain laws of texts: a word with arguments in parentheses, written and read, the program's way and the reference's; no condition: nothing of the program is named here. -/
import Derived.Test.YtojgkodffmdnpaaPl1
import Derived.Test.YtojgkodffmdnpaaRep
namespace Go.Proofs.Ytojgkodffmdnpaa

theorem split_ne (s sep : List UInt8) : Lib.split s sep ≠ [] := by
  unfold Lib.split
  cases Lib.count s sep with
  | zero => simp [Lib.splitK]
  | succ k => rw [Lib.splitK]; split <;> simp
theorem join_split (sep : List UInt8) (hs : sep ≠ []) : ∀ (n : Nat) (s : List UInt8), s.length ≤ n → Lib.join (Lib.split s sep) sep = s := by
  intro n
  induction n with
  | zero =>
    intro s hn
    obtain rfl : s = [] := List.eq_nil_of_length_eq_zero (by omega)
    have : Lib.index [] sep = -1 := by cases sep with
      | nil => exact absurd rfl hs
      | cons => rfl
    rw [split_miss this, Lib.join_one]
  | succ n ih =>
    intro s hn
    rcases Lib.index_spec s sep with ⟨h, -⟩ | ⟨i, h, hi, ho, -⟩
    · rw [split_miss h, Lib.join_one]
    · rw [split_hit hs h]
      have hp := List.isPrefixOf_iff_prefix.1 ho
      obtain ⟨t, ht⟩ := hp
      have hl : 1 ≤ sep.length := by cases sep with
        | nil => exact absurd rfl hs
        | cons => simp
      have hr : i + sep.length ≤ s.length := by
        have := congrArg List.length ht; simp at this; omega
      have e : s.drop (i + sep.length) = t := by
        rw [← List.drop_drop, ← ht]; simp
      have hj := ih (s.drop (i + sep.length)) (by simp; omega)
      cases hq : Lib.split (s.drop (i + sep.length)) sep with
      | nil => exact absurd hq (split_ne _ _)
      | cons a r =>
        rw [hq] at hj
        rw [Lib.join_cons]
        rw [Lib.join_cons] at hj
        have : Lib.joinTail sep (a :: r) = sep ++ (a ++ Lib.joinTail sep r) := by simp [Lib.joinTail]
        rw [this, hj, e, ht, List.take_append_drop]
theorem mem_join {c : UInt8} {sep : List UInt8} : ∀ {L : List (List UInt8)}, c ∈ Lib.join L sep → c ∈ sep ∨ ∃ p ∈ L, c ∈ p
  | [], h => by simp [Lib.join_nil] at h
  | a :: r, h => by
    rw [Lib.join_cons, List.mem_append] at h
    rcases h with h | h
    · exact .inr ⟨a, by simp, h⟩
    · unfold Lib.joinTail at h
      rw [List.mem_flatten] at h
      obtain ⟨l, hl, hc⟩ := h
      rw [List.mem_map] at hl
      obtain ⟨p, hp, rfl⟩ := hl
      rcases List.mem_append.1 hc with hc | hc
      · exact .inl hc
      · exact .inr ⟨p, by simp [hp], hc⟩
theorem mem_split {c : UInt8} {s sep : List UInt8} (hs : sep ≠ []) (hc : c ∈ s) (hn : c ∉ sep) : ∃ p ∈ Lib.split s sep, c ∈ p := by
  rw [← join_split sep hs s.length s (Nat.le_refl _)] at hc
  rcases mem_join hc with h | h
  · exact absurd h hn
  · exact h
theorem joinB_spB (s sep : ByteArray) (h1 : 1 ≤ sep.size) : joinB (spB s sep) sep = s := by
  apply data_inj
  rw [joinB_data, spB_data]
  exact join_split _ (fun e => by have : sep.size = 0 := by rw [Lib.size_eq, e]; rfl
                                  omega) _ _ (Nat.le_refl _)
theorem joinB_splitV (s sep : ByteArray) : joinB (splitV s sep) sep = s := by
  unfold splitV
  split
  · exact joinB_one _ _
  · exact joinB_spB _ _ (by omega)

def tLp : ByteArray := ⟨#[40]⟩
def tRp : ByteArray := ⟨#[41]⟩
def tCo : ByteArray := ⟨#[44]⟩
def fmtF (f : FactV) : ByteArray := f.rel ++ tLp ++ joinB f.args tCo ++ tRp
/-- the program's reading: at the first opening parenthesis -/
def inV (rest : ByteArray) : List ByteArray := if (rest.extract 0 (rest.size - 1)).size = 0 then [] else spB (rest.extract 0 (rest.size - 1)) tCo
def callV (s : ByteArray) : Option (ByteArray × List ByteArray) :=
  if (Lib.cut s.data.toList [40]).2.2 && Lib.hasSuffix (Lib.cut s.data.toList [40]).2.1 [41] then some (⟨(Lib.cut s.data.toList [40]).1.toArray⟩, inV ⟨(Lib.cut s.data.toList [40]).2.1.toArray⟩) else none
/-- the reference's: in two parts -/
def lastRp (b : ByteArray) : Bool := match b.data.toList.getLast? with | some c => c == 41 | none => false
def partV (s : ByteArray) : Option (ByteArray × List ByteArray) :=
  match spB s tLp with
  | [a, b] => if lastRp b then some (a, inV b) else none
  | _ => none
def parseB (ok : FactV → Bool) (s : ByteArray) : Option FactV :=
  match partV s with
  | some (r, a) => if ok ⟨r, a⟩ then some ⟨r, a⟩ else none
  | none => none
theorem suffix_last (l : List UInt8) : Lib.hasSuffix l [41] = (match l.getLast? with | some c => c == 41 | none => false) := by
  unfold Lib.hasSuffix
  rcases List.eq_nil_or_concat l with rfl | ⟨r, c, rfl⟩
  · rfl
  · rw [Bool.eq_iff_iff, List.isSuffixOf_iff_suffix]
    simp only [List.concat_eq_append, List.getLast?_append, List.getLast?_singleton, Option.some_or, beq_iff_eq]
    constructor
    · rintro ⟨t, ht⟩
      have := List.append_inj_right' ht rfl
      simp at this; exact this.symm
    · rintro rfl; exact ⟨r, rfl⟩
theorem suffix_form {l : List UInt8} (h : Lib.hasSuffix l [41] = true) : ∃ r, l = r ++ [41] := by
  unfold Lib.hasSuffix at h
  obtain ⟨t, ht⟩ := List.isSuffixOf_iff_suffix.1 h
  exact ⟨t, ht.symm⟩
theorem inV_join {b : ByteArray} {r : List UInt8} (h : b.data.toList = r ++ [41]) : (joinB (inV b) tCo).data.toList = r := by
  have hz : b.size = r.length + 1 := by rw [Lib.size_eq, h]; simp
  have e : (b.extract 0 (b.size - 1)).data.toList = r := by rw [Lib.extract_data, h, hz]; simp
  unfold inV
  split
  · rename_i h0
    rw [Lib.size_eq, e] at h0
    have : r = [] := List.eq_nil_of_length_eq_zero h0
    subst this; rfl
  · rw [joinB_spB _ _ (by decide), e]
theorem index_one (c : UInt8) (s : List UInt8) (h : Lib.index s [c] = -1) : c ∉ s := by
  induction s with
  | nil => simp
  | cons b l ih =>
    unfold Lib.index at h
    split at h
    · cases h
    · rename_i hp
      split at h
      · rename_i h1
        rw [List.mem_cons]
        rintro (rfl | hc)
        · simp at hp
        · exact ih (by simpa using h1) hc
      · rename_i h1
        have := Lib.index_ge l [c]
        have h2 : Lib.index l [c] ≠ -1 := fun e => h1 (by rw [e]; rfl)
        omega
theorem index_mem (c : UInt8) (s : List UInt8) {i : Nat} (h : Lib.index s [c] = i) : c ∈ s := by
  rcases Lib.index_spec s [c] with ⟨h', -⟩ | ⟨j, h', hj, ho, -⟩
  · omega
  · unfold Lib.occAt at ho
    obtain ⟨t, ht⟩ := List.isPrefixOf_iff_prefix.1 ho
    exact List.mem_of_mem_drop (by rw [← ht]; simp : c ∈ s.drop j)
/-- where the reference's reading finds a word, the program's finds the same, and it is written as it was read; where it finds none, the program's finds none that is valid -/
theorem call_part (s : ByteArray) : (∃ r a, callV s = some (r, a) ∧ partV s = some (r, a) ∧ fmtF ⟨r, a⟩ = s) ∨ (partV s = none ∧ (callV s = none ∨ ∃ r a, callV s = some (r, a) ∧ ∃ p ∈ a, (40 : UInt8) ∈ p.data.toList)) := by
  have hd := spB_data s tLp
  have et : tLp.data.toList = [40] := rfl
  rw [et] at hd
  rcases Lib.index_spec s.data.toList [40] with ⟨h, -⟩ | ⟨i, h, hi, ho, -⟩
  · right
    have hc : callV s = none := by unfold callV Lib.cut; rw [h]; rfl
    refine ⟨?_, .inl hc⟩
    rw [split_miss h] at hd
    unfold partV
    have hl := congrArg List.length hd
    simp only [List.length_map, List.length_singleton] at hl
    cases hq : spB s tLp with
    | nil => rfl
    | cons a r => cases r with
      | nil => rfl
      | cons b r => rw [hq] at hl; simp at hl
  · have hcut : Lib.cut s.data.toList [40] = (s.data.toList.take i, s.data.toList.drop (i + 1), true) := by
      unfold Lib.cut; rw [if_pos (by omega), h]; simp
    obtain ⟨t, ht⟩ := List.isPrefixOf_iff_prefix.1 ho
    have ed : s.data.toList.drop (i + 1) = t := by rw [← List.drop_drop, ← ht]; rfl
    have es : s.data.toList.take i ++ 40 :: t = s.data.toList := by
      conv => rhs; rw [← List.take_append_drop i s.data.toList, ← ht]
      rfl
    rw [split_hit (by simp) h] at hd
    simp only [List.length_singleton] at hd
    rw [ed] at hd
    rw [ed] at hcut
    rcases Lib.index_spec t [40] with ⟨h2, -⟩ | ⟨j, h2, -, -, -⟩
    · rw [split_miss h2] at hd
      have hp : ∃ a b : ByteArray, spB s tLp = [a, b] ∧ a.data.toList = s.data.toList.take i ∧ b.data.toList = t := by
        cases hq : spB s tLp with
        | nil => rw [hq] at hd; simp at hd
        | cons a r => cases r with
          | nil => rw [hq] at hd; simp at hd
          | cons b r => cases r with
            | nil => rw [hq] at hd; simp only [List.map_cons, List.map_nil, List.cons.injEq, and_true] at hd; exact ⟨a, b, rfl, hd.1, hd.2⟩
            | cons c r => rw [hq] at hd; simp at hd
      obtain ⟨a, b, hq, ha, hb⟩ := hp
      have ea : (⟨(s.data.toList.take i).toArray⟩ : ByteArray) = a := data_inj (by simp [ha])
      have eb : (⟨t.toArray⟩ : ByteArray) = b := data_inj (by simp [hb])
      unfold callV partV
      rw [hcut, hq, ea, eb]
      have hl : lastRp b = Lib.hasSuffix t [41] := by unfold lastRp; rw [suffix_last, hb]
      simp only [hl, Bool.true_and]
      by_cases hS : Lib.hasSuffix t [41] = true
      · left
        refine ⟨a, inV b, by rw [if_pos hS], by rw [if_pos hS], ?_⟩
        obtain ⟨r, hr⟩ := suffix_form hS
        apply data_inj
        have := inV_join (b := b) (r := r) (by rw [hb, hr])
        unfold fmtF
        simp only [ByteArray.data_append, Array.toList_append]
        rw [this, ha, ← es, hr]
        have ei : (s.data.toList.take i).length = i := by simp only [List.length_take]; omega
        rw [List.take_append_of_le_length (by omega), List.take_of_length_le (by omega)]
        simp [tLp, tRp]
      · right
        exact ⟨by rw [if_neg hS], .inl (by rw [if_neg hS])⟩
    · right
      rw [split_hit (by simp) h2] at hd
      refine ⟨?_, ?_⟩
      · unfold partV
        cases hq : spB s tLp with
        | nil => rfl
        | cons a r => cases r with
          | nil => rfl
          | cons b r => cases r with
            | nil =>
              exfalso
              rw [hq] at hd
              simp only [List.map_cons, List.map_nil, List.cons.injEq] at hd
              exact split_ne _ _ hd.2.2.symm
            | cons c r => rfl
      · unfold callV
        rw [hcut]
        simp only [Bool.true_and]
        by_cases hS : Lib.hasSuffix t [41] = true
        · right
          refine ⟨_, _, by rw [if_pos hS], ?_⟩
          obtain ⟨r, hr⟩ := suffix_form hS
          have hm := index_mem 40 t h2
          rw [hr, List.mem_append] at hm
          have hm : (40 : UInt8) ∈ r := by rcases hm with hm | hm
                                           · exact hm
                                           · simp at hm
          have hj := inV_join (b := ⟨t.toArray⟩) (r := r) (by simp [hr])
          rw [joinB_data] at hj
          rw [← hj] at hm
          rcases mem_join hm with hm | ⟨p, hp, hc⟩
          · simp [tCo] at hm
          · rw [List.mem_map] at hp
            obtain ⟨q, hq, rfl⟩ := hp
            exact ⟨q, hq, hc⟩
        · exact .inl (by rw [if_neg hS])
theorem parse_call (ok : FactV → Bool) (hok : ∀ f, ok f = true → ∀ p ∈ f.args, (40 : UInt8) ∉ p.data.toList) (s : ByteArray) :
    parseB ok s = (match callV s with | some (r, a) => if ok ⟨r, a⟩ && decide (fmtF ⟨r, a⟩ = s) then some ⟨r, a⟩ else none | none => none) := by
  unfold parseB
  rcases call_part s with ⟨r, a, h1, h2, h3⟩ | ⟨h1, h2 | ⟨r, a, h2, p, hp, hc⟩⟩
  · rw [h1, h2]; simp [h3]
  · rw [h1, h2]
  · rw [h1, h2]
    have : ok ⟨r, a⟩ = false := by
      cases ho : ok ⟨r, a⟩ with
      | false => rfl
      | true => exact absurd hc (hok _ ho p hp)
    simp [this]
theorem spB_mem {s sep x : ByteArray} (h1 : 1 ≤ sep.size) (h : x ∈ spB s sep) : x.size ≤ s.size := by
  have hj := joinB_spB s sep h1
  have hz := joinB_size (spB s sep) sep
  rw [hj] at hz
  have : x.size ≤ tlen (spB s sep) := by
    generalize spB s sep = L at h
    induction L with
    | nil => cases h
    | cons a r ih =>
      rcases List.mem_cons.1 h with rfl | h
      · simp [tlen]
      · have := ih h; simp only [tlen]; omega
  omega
end Go.Proofs.Ytojgkodffmdnpaa
