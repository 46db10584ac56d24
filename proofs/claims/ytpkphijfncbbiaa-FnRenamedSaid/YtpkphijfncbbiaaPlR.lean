/- Plain laws of renamed conditions: variables that get new names and their own ones again are as they were; no condition: nothing of the program is named here but the plain functions of the texts that are imported. -/
import Derived.Test.YtpkphijfncbbiaaVars
import Derived.Test.YtpkphijfncbbiaaPlT
namespace Go.Proofs.Ytpkphijfncbbiaa
set_option linter.unusedVariables false
def vX : ByteArray := ⟨#[63, 120]⟩
def vY : ByteArray := ⟨#[63, 121]⟩
def vZ : ByteArray := ⟨#[63, 122]⟩
def vU1 : ByteArray := ⟨#[63, 117, 49]⟩
def vU2 : ByteArray := ⟨#[63, 117, 50]⟩
def vU3 : ByteArray := ⟨#[63, 117, 51]⟩
def toR : Prs := [(vX, vU1), (vY, vU2), (vZ, vU3)]
def backR : Prs := [(vU1, vX), (vU2, vY), (vU3, vZ)]
def goodT (t : ByteArray) : Prop := t ≠ vU1 ∧ t ≠ vU2 ∧ t ≠ vU3
theorem ren3 (a b c a' b' c' t : ByteArray) : renT [(a, a'), (b, b'), (c, c')] t = if a = t then a' else if b = t then b' else if c = t then c' else t := by
  unfold renT findP
  by_cases h1 : a = t
  · simp [h1]
  · by_cases h2 : b = t
    · simp [h1, h2]
    · by_cases h3 : c = t
      · simp [h1, h2, h3]
      · simp [h1, h2, h3]
theorem ren_cases (t : ByteArray) : (t = vX ∧ renT toR t = vU1) ∨ (t = vY ∧ renT toR t = vU2) ∨ (t = vZ ∧ renT toR t = vU3) ∨ (t ≠ vX ∧ t ≠ vY ∧ t ≠ vZ ∧ renT toR t = t) := by
  have h := ren3 vX vY vZ vU1 vU2 vU3 t
  by_cases h1 : vX = t
  · exact .inl ⟨h1.symm, by unfold toR; rw [h, if_pos h1]⟩
  · by_cases h2 : vY = t
    · exact .inr (.inl ⟨h2.symm, by unfold toR; rw [h, if_neg h1, if_pos h2]⟩)
    · by_cases h3 : vZ = t
      · exact .inr (.inr (.inl ⟨h3.symm, by unfold toR; rw [h, if_neg h1, if_neg h2, if_pos h3]⟩))
      · exact .inr (.inr (.inr ⟨fun e => h1 e.symm, fun e => h2 e.symm, fun e => h3 e.symm, by unfold toR; rw [h, if_neg h1, if_neg h2, if_neg h3]⟩))
theorem back_u1 : renT backR vU1 = vX := by unfold backR; rw [ren3, if_pos rfl]
theorem back_u2 : renT backR vU2 = vY := by unfold backR; rw [ren3, if_neg (by decide), if_pos rfl]
theorem back_u3 : renT backR vU3 = vZ := by unfold backR; rw [ren3, if_neg (by decide), if_neg (by decide), if_pos rfl]
theorem back_to {t : ByteArray} (h : goodT t) : renT backR (renT toR t) = t := by
  rcases ren_cases t with ⟨rfl, e⟩ | ⟨rfl, e⟩ | ⟨rfl, e⟩ | ⟨-, -, -, e⟩
  · rw [e]; exact back_u1
  · rw [e]; exact back_u2
  · rw [e]; exact back_u3
  · rw [e]
    unfold backR
    rw [ren3, if_neg (fun e => h.1 e.symm), if_neg (fun e => h.2.1 e.symm), if_neg (fun e => h.2.2 e.symm)]
theorem to_var (t : ByteArray) : isVarB (renT toR t) = isVarB t := by
  rcases ren_cases t with ⟨rfl, e⟩ | ⟨rfl, e⟩ | ⟨rfl, e⟩ | ⟨-, -, -, e⟩ <;> rw [e]
  all_goals decide
theorem to_term (t : ByteArray) : isTermB (renT toR t) = isTermB t := by
  rcases ren_cases t with ⟨rfl, e⟩ | ⟨rfl, e⟩ | ⟨rfl, e⟩ | ⟨-, -, -, e⟩ <;> rw [e]
  all_goals decide
theorem to_empty (t : ByteArray) : (renT toR t).toList.isEmpty = t.toList.isEmpty := by
  rw [ByteArray.toList_eq, ByteArray.toList_eq]
  rcases ren_cases t with ⟨rfl, e⟩ | ⟨rfl, e⟩ | ⟨rfl, e⟩ | ⟨-, -, -, e⟩ <;> rw [e]
  all_goals rfl
theorem ren_back {x : CondV} (h : ∀ t ∈ termsC x, goodT t) : renC (renC x toR) backR = x := by
  cases x with
  | mk k p l r =>
    cases p with
    | mk rel args =>
      unfold renC
      simp only [List.map_map]
      have h1 : args.map (renT backR ∘ renT toR) = args := by
        conv => rhs; rw [← List.map_id args]
        exact List.map_congr_left fun t ht => back_to (h t (by unfold termsC; simp [ht]))
      rw [h1, back_to (h l (by simp [termsC])), back_to (h r (by simp [termsC]))]
theorem isCond_ren (x : CondV) : isCondB (renC x toR) = isCondB x := by
  have hp : isPatB (renC x toR).pat = isPatB x.pat := by
    unfold isPatB renC
    simp only [List.length_map, List.all_map]
    congr 2
    funext t
    exact to_term t
  have hz : zeroB (renC x toR).pat = zeroB x.pat := by unfold zeroB renC; simp only [List.length_map]
  unfold isCondB
  rw [hp, hz]
  show (if (x.kind == 1 || x.kind == 2) then (isPatB x.pat && (renT toR x.left).toList.isEmpty) && (renT toR x.right).toList.isEmpty else if ((x.kind == 3 || x.kind == 4) || x.kind == 5) then (isTermB (renT toR x.left) && isTermB (renT toR x.right)) && zeroB x.pat else false) = _
  rw [to_empty, to_empty, to_term, to_term]
theorem asc_nodup {L : List ByteArray} (h : Asc L) : L.Nodup := h.imp fun {a b} hab e => by subst e; rw [ltS_irr] at hab; cases hab
theorem set_map_len {L : List ByteArray} {g k : ByteArray → ByteArray} (h : ∀ t ∈ L, k (g t) = t) : (setT (L.map g)).length = (setT L).length := by
  have n1 : (setT (L.map g)).Nodup := asc_nodup (setT_asc _)
  have n2 : ((setT L).map g).Nodup := by
    unfold List.Nodup
    rw [List.pairwise_map]
    refine (List.Pairwise.and_mem.1 (asc_nodup (setT_asc L))).imp ?_
    rintro a b ⟨ha, hb, hne⟩ e
    refine hne ?_
    rw [setT_mem] at ha hb
    rw [← h a ha, ← h b hb, e]
  have hp : (setT (L.map g)).Perm ((setT L).map g) := (List.perm_ext_iff_of_nodup n1 n2).2 fun a => by
    rw [setT_mem, List.mem_map, List.mem_map]
    constructor
    · rintro ⟨t, ht, rfl⟩; exact ⟨t, (setT_mem _ _).2 ht, rfl⟩
    · rintro ⟨t, ht, rfl⟩; exact ⟨t, (setT_mem _ _).1 ht, rfl⟩
  rw [hp.length_eq, List.length_map]
theorem vars_ren_len {x : CondV} (h : ∀ t ∈ termsC x, goodT t) : (varsC (renC x toR)).length = (varsC x).length := by
  have e1 : termsC (renC x toR) = (termsC x).map (renT toR) := by unfold termsC renC; simp
  have e2 : vars ((termsC x).map (renT toR)) = (vars (termsC x)).map (renT toR) := by
    unfold vars
    rw [List.filter_map]
    congr 1
    apply List.filter_congr
    intro t ht
    exact to_var t
  unfold varsC
  rw [e1, e2]
  refine set_map_len (k := renT backR) fun t ht => back_to (h t ?_)
  unfold vars at ht
  exact (List.mem_filter.1 ht).1
end Go.Proofs.Ytpkphijfncbbiaa
