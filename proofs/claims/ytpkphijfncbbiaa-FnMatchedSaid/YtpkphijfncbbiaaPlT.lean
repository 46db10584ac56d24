/- Plain laws of written facts, patterns and lists of facts: what is written is read again, and only what is valid is written; no condition: nothing of the program is named here but the plain functions of the texts that are imported. -/
import Derived.Test.YtpkphijfncbbiaaPl5
namespace Go.Proofs.Ytpkphijfncbbiaa
set_option linter.unusedVariables false
theorem idx_skip {c : UInt8} : ∀ {a r : List UInt8}, c ∉ a → Lib.index (a ++ c :: r) [c] = (a.length : Int)
  | [], r, _ => by unfold Lib.index; simp [List.isPrefixOf]
  | b :: a, r, h => by
    simp only [List.mem_cons, not_or] at h
    have ih := idx_skip (r := r) h.2
    rw [List.cons_append]
    unfold Lib.index
    have hp : [c].isPrefixOf (b :: (a ++ c :: r)) = false := by simp [List.isPrefixOf]; exact h.1
    rw [hp, ih]
    have : ((a.length : Int) == -1) = false := by rw [beq_eq_false_iff_ne]; omega
    simp [this]
theorem idx_no {c : UInt8} : ∀ {a : List UInt8}, c ∉ a → Lib.index a [c] = -1
  | [], _ => by unfold Lib.index; simp
  | b :: a, h => by
    simp only [List.mem_cons, not_or] at h
    have ih := idx_no h.2
    unfold Lib.index
    have hp : [c].isPrefixOf (b :: a) = false := by simp [List.isPrefixOf]; exact h.1
    rw [hp, ih]; rfl
theorem split_skip {c : UInt8} {a r : List UInt8} (h : c ∉ a) : Lib.split (a ++ c :: r) [c] = a :: Lib.split r [c] := by
  rw [split_hit (by simp) (idx_skip h)]
  simp
theorem split_no {c : UInt8} {a : List UInt8} (h : c ∉ a) : Lib.split a [c] = [a] := split_miss (idx_no h)
theorem join_two (a b : List UInt8) (r : List (List UInt8)) (c : UInt8) : Lib.join (a :: b :: r) [c] = a ++ c :: Lib.join (b :: r) [c] := by
  rw [Lib.join_cons, Lib.join_cons]; simp [Lib.joinTail]
theorem split_join {c : UInt8} : ∀ {L : List (List UInt8)}, L ≠ [] → (∀ p ∈ L, c ∉ p) → Lib.split (Lib.join L [c]) [c] = L
  | [], h, _ => absurd rfl h
  | [a], _, h => by rw [Lib.join_one]; exact split_no (h a (by simp))
  | a :: b :: r, _, h => by
    rw [join_two, split_skip (h a (by simp)), split_join (by simp) fun p hp => h p (by simp [hp])]
theorem spB_join {c : UInt8} {sep : ByteArray} {L : List ByteArray} (hs : sep.data.toList = [c]) (hL : L ≠ []) (h : ∀ p ∈ L, c ∉ p.data.toList) : spB (joinB L sep) sep = L := by
  apply map_data_inj
  rw [spB_data, joinB_data, hs]
  refine split_join (by simpa using hL) fun p hp => ?_
  rw [List.mem_map] at hp
  obtain ⟨q, hq, rfl⟩ := hp
  exact h q hq
theorem inV_args {L : List ByteArray} (h : ∀ p ∈ L, (44 : UInt8) ∉ p.data.toList ∧ 0 < p.size) : inV (joinB L tCo ++ tRp) = L := by
  have hz : (joinB L tCo ++ tRp).size = (joinB L tCo).size + 1 := by rw [ByteArray.size_append]; rfl
  have he : (joinB L tCo ++ tRp).extract 0 ((joinB L tCo ++ tRp).size - 1) = joinB L tCo := by
    apply data_inj
    have h1 : (joinB L tCo).size = (joinB L tCo).data.toList.length := Lib.size_eq _
    rw [Lib.extract_data, hz, ByteArray.data_append, Array.toList_append, Nat.add_sub_cancel, h1]
    simp
  unfold inV
  rw [he]
  split
  · rename_i h0
    cases L with
    | nil => rfl
    | cons a r =>
      exfalso
      have h1 := joinB_size (a :: r) tCo
      have h2 := (h a (by simp)).2
      simp only [tlen] at h1
      omega
  · rename_i h0
    refine spB_join (c := 44) rfl ?_ fun p hp => (h p hp).1
    rintro rfl
    exact h0 rfl
theorem partV_fmt {f : FactV} (hr : (40 : UInt8) ∉ f.rel.data.toList) (h : ∀ p ∈ f.args, (40 : UInt8) ∉ p.data.toList ∧ (44 : UInt8) ∉ p.data.toList ∧ 0 < p.size) : partV (fmtF f) = some (f.rel, f.args) := by
  have hd : (fmtF f).data.toList = f.rel.data.toList ++ 40 :: ((joinB f.args tCo).data.toList ++ [41]) := by
    unfold fmtF
    simp only [ByteArray.data_append, Array.toList_append, List.append_assoc]
    rfl
  have hno : (40 : UInt8) ∉ (joinB f.args tCo).data.toList ++ [41] := by
    rw [List.mem_append, not_or]
    refine ⟨fun hc => ?_, by simp⟩
    rw [joinB_data] at hc
    rcases mem_join hc with hc | ⟨p, hp, hc⟩
    · simp [tCo] at hc
    · rw [List.mem_map] at hp
      obtain ⟨q, hq, rfl⟩ := hp
      exact (h q hq).1 hc
  have hs : spB (fmtF f) tLp = [f.rel, joinB f.args tCo ++ tRp] := by
    apply map_data_inj
    rw [spB_data, hd, show tLp.data.toList = [40] from rfl, split_skip hr, split_no hno]
    simp only [List.map_cons, List.map_nil, ByteArray.data_append, Array.toList_append]
    rfl
  unfold partV
  rw [hs]
  have hl : lastRp (joinB f.args tCo ++ tRp) = true := by
    unfold lastRp
    rw [ByteArray.data_append, Array.toList_append, show tRp.data.toList = [41] from rfl]
    simp
  simp only [hl, if_true]
  rw [inV_args fun p hp => ⟨(h p hp).2.1, (h p hp).2.2⟩]
theorem parse_fmt {ok : FactV → Bool} {f : FactV} (ho : ok f = true) (hr : (40 : UInt8) ∉ f.rel.data.toList) (h : ∀ p ∈ f.args, (40 : UInt8) ∉ p.data.toList ∧ (44 : UInt8) ∉ p.data.toList ∧ 0 < p.size) : parseB ok (fmtF f) = some f := by
  unfold parseB
  rw [partV_fmt hr h]
  cases f
  simp [ho]
theorem part_empty : partV ⟨#[]⟩ = none := by
  have hs : spB ⟨#[]⟩ tLp = [⟨#[]⟩] := by
    apply map_data_inj
    rw [spB_data, show tLp.data.toList = [40] from rfl]
    exact split_no (by simp)
  unfold partV; rw [hs]
theorem parse_empty (ok : FactV → Bool) : parseB ok ⟨#[]⟩ = none := by unfold parseB; rw [part_empty]
/- the signs of what is valid -/
theorem atom_chars {s : ByteArray} (h : isAtomB s = true) : ∀ c ∈ s.data.toList, atomCh c = true := by
  unfold isAtomB at h
  simp only [Bool.and_eq_true, List.all_eq_true] at h
  exact h.2
theorem name_atom {s : ByteArray} (h : isNameB s = true) : isAtomB s = true := by
  unfold isNameB at h
  simp only [Bool.and_eq_true] at h
  exact h.1
theorem not_in {s : ByteArray} {c : UInt8} (h : isTermB s = true) (h1 : c ≠ 63) (h2 : atomCh c = false) : c ∉ s.data.toList := fun hc => by
  rcases term_no h hc with h3 | h3
  · exact h1 h3
  · rw [h2] at h3; cases h3
theorem atom_term {s : ByteArray} (h : isAtomB s = true) : isTermB s = true := by unfold isTermB; rw [h]; rfl
theorem term_pos {s : ByteArray} (h : isTermB s = true) : 0 < s.size := by
  unfold isTermB at h
  simp only [Bool.or_eq_true] at h
  rcases h with h | h
  · exact (isAtomB_size h).1
  · unfold isVarB at h
    simp only [Bool.and_eq_true, decide_eq_true_eq] at h
    omega
theorem isFact_rel {f : FactV} (h : isFactB f = true) : isAtomB f.rel = true := by
  unfold isFactB at h
  simp only [Bool.and_eq_true] at h
  exact name_atom h.1.1
theorem isPat_rel {f : FactV} (h : isPatB f = true) : isAtomB f.rel = true := by
  unfold isPatB at h
  simp only [Bool.and_eq_true] at h
  exact name_atom h.1.1
theorem isFact_arg {f : FactV} (h : isFactB f = true) : ∀ p ∈ f.args, isAtomB p = true := by
  unfold isFactB at h
  simp only [Bool.and_eq_true, List.all_eq_true] at h
  exact h.2
theorem isPat_arg {f : FactV} (h : isPatB f = true) : ∀ p ∈ f.args, isTermB p = true := by
  unfold isPatB at h
  simp only [Bool.and_eq_true, List.all_eq_true] at h
  exact h.2
theorem parse_formF (f : FactV) : parseB isFactB (formF f) = if isFactB f then some f else none := by
  unfold formF
  cases h : isFactB f with
  | false => simp only [Bool.false_eq_true, if_false]; exact parse_empty _
  | true =>
    simp only [if_true]
    exact parse_fmt h (not_in (atom_term (isFact_rel h)) (by decide) (by decide)) fun p hp =>
      have ht := atom_term (isFact_arg h p hp)
      ⟨not_in ht (by decide) (by decide), not_in ht (by decide) (by decide), term_pos ht⟩
theorem parse_formP (f : FactV) : parseB isPatB (formP f) = if isPatB f then some f else none := by
  unfold formP
  cases h : isPatB f with
  | false => simp only [Bool.false_eq_true, if_false]; exact parse_empty _
  | true =>
    simp only [if_true]
    exact parse_fmt h (not_in (atom_term (isPat_rel h)) (by decide) (by decide)) fun p hp =>
      have ht := isPat_arg h p hp
      ⟨not_in ht (by decide) (by decide), not_in ht (by decide) (by decide), term_pos ht⟩
theorem fmtF_pos (f : FactV) : (fmtF f).size ≠ 0 := by rw [fmtF_size]; omega
theorem formF_size0 (f : FactV) : (formF f).size = 0 ↔ isFactB f = false := by
  unfold formF
  cases h : isFactB f with
  | false => simp [ByteArray.size]
  | true => simp only [if_true]; constructor
            · intro h'; exact absurd h' (fmtF_pos f)
            · intro h'; cases h'
theorem formP_size0 (f : FactV) : (formP f).size = 0 ↔ isPatB f = false := by
  unfold formP
  cases h : isPatB f with
  | false => simp [ByteArray.size]
  | true => simp only [if_true]; constructor
            · intro h'; exact absurd h' (fmtF_pos f)
            · intro h'; cases h'
/- lists of facts -/
def pOk (s : ByteArray) : Bool := (parseB isFactB s).isSome
def pVal (s : ByteArray) : FactV := oF (parseB isFactB s)
def parseFs (s : ByteArray) : Option (List FactV) := if s.data.toList = [45] then some [] else if (spB s tSp).all pOk then some ((spB s tSp).map pVal) else none
theorem pOk_fmt {f : FactV} (h : isFactB f = true) : pOk (formF f) = true := by unfold pOk; rw [parse_formF, h]; rfl
theorem pVal_fmt {f : FactV} (h : isFactB f = true) : pVal (formF f) = f := by unfold pVal; rw [parse_formF, h]; rfl
theorem formF_no32 (f : FactV) : (32 : UInt8) ∉ (formF f).data.toList := by
  unfold formF
  cases h : isFactB f with
  | false => simp
  | true =>
    simp only [if_true]
    unfold fmtF
    simp only [ByteArray.data_append, Array.toList_append, List.mem_append, not_or]
    refine ⟨⟨⟨not_in (atom_term (isFact_rel h)) (by decide) (by decide), by simp [tLp]⟩, fun hc => ?_⟩, by simp [tRp]⟩
    rw [joinB_data] at hc
    rcases mem_join hc with hc | ⟨p, hp, hc⟩
    · simp [tCo] at hc
    · rw [List.mem_map] at hp
      obtain ⟨q, hq, rfl⟩ := hp
      exact not_in (atom_term (isFact_arg h q hq)) (by decide) (by decide) hc
theorem formFs_all {L : List FactV} (h0 : L ≠ []) (h : L.all isFactB = true) : formFs L = joinB (L.map formF) tSp := by
  unfold formFs
  rw [if_neg (by simpa using h0), h]; rfl
theorem formFs_none {L : List FactV} (h : L.all isFactB = false) : formFs L = ⟨#[]⟩ := by
  unfold formFs
  rw [if_neg (by rintro e; rw [List.eq_nil_of_length_eq_zero e] at h; cases h), h]; rfl
theorem joinB_big {L : List ByteArray} {sep : ByteArray} (h : L ≠ []) : ∃ a ∈ L, a.size ≤ (joinB L sep).size := by
  cases L with
  | nil => exact absurd rfl h
  | cons a r => exact ⟨a, by simp, by rw [joinB_size]; simp only [tlen]; omega⟩
theorem parse_formFs (L : List FactV) : parseFs (formFs L) = if L.all isFactB then some L else none := by
  cases h : L.all isFactB with
  | false =>
    rw [formFs_none h]
    have hs : spB ⟨#[]⟩ tSp = [⟨#[]⟩] := by
      apply map_data_inj
      rw [spB_data, show tSp.data.toList = [32] from rfl]
      exact split_no (by simp)
    unfold parseFs
    rw [hs]
    simp [pOk, parse_empty]
  | true =>
    simp only [if_true]
    by_cases h0 : L = []
    · subst h0; rfl
    · rw [formFs_all h0 h]
      have hs : spB (joinB (L.map formF) tSp) tSp = L.map formF := spB_join (c := 32) rfl (by simpa using h0) fun p hp => by
        rw [List.mem_map] at hp
        obtain ⟨f, -, rfl⟩ := hp
        exact formF_no32 f
      rw [List.all_eq_true] at h
      have hbig : ¬ (joinB (L.map formF) tSp).size = 1 := fun e => by
        obtain ⟨a, ha, hz⟩ := joinB_big (sep := tSp) (L := L.map formF) (by simpa using h0)
        rw [List.mem_map] at ha
        obtain ⟨f, hf, rfl⟩ := ha
        have hff := h f hf
        have : 2 ≤ (formF f).size := by unfold formF; rw [hff]; simp only [if_true]; rw [fmtF_size]; omega
        omega
      unfold parseFs
      rw [if_neg (fun e => hbig (by rw [Lib.size_eq, e]; rfl)), hs, if_pos]
      · rw [List.map_map]
        congr 1
        conv => rhs; rw [← List.map_id L]
        exact List.map_congr_left fun f hf => pVal_fmt (h f hf)
      · rw [List.all_eq_true]
        intro p hp
        rw [List.mem_map] at hp
        obtain ⟨f, hf, rfl⟩ := hp
        exact pOk_fmt (h f hf)
theorem formFs_size0 (L : List FactV) : (formFs L).size = 0 ↔ L.all isFactB = false := by
  cases h : L.all isFactB with
  | false => rw [formFs_none h]; simp [ByteArray.size]
  | true =>
    refine ⟨fun e => ?_, fun e => by cases e⟩
    by_cases h0 : L = []
    · subst h0; cases e
    · rw [formFs_all h0 h] at e
      obtain ⟨a, ha, hz⟩ := joinB_big (sep := tSp) (L := L.map formF) (by simpa using h0)
      rw [List.mem_map] at ha
      obtain ⟨f, hf, rfl⟩ := ha
      rw [List.all_eq_true] at h
      have := (formF_size0 f).1 (by omega)
      rw [h f hf] at this; cases this
theorem splitV_tsz (s sep : ByteArray) (hz : s.size ≤ 1048576) : tsz (splitV s sep) ≤ 4194304 := by
  have h1 := splitV_le s sep
  have h2 := joinB_size (splitV s sep) sep
  rw [joinB_splitV, tlen_tsum] at h2
  unfold tsz; omega
end Go.Proofs.Ytpkphijfncbbiaa
