/- When one pattern covers another: the plain law, in the program's reading (a map) and in the reference's (pairs of places). -/
import Derived.Test.YtpkphijfncbbiaaMatch
namespace Go.Proofs.Ytpkphijfncbbiaa
set_option linter.unusedVariables false
def CovI (p q : List ByteArray) (i : Nat) : Prop :=
  (∀ a b, p[i]? = some a → q[i]? = some b → isAtomB a = true → a = b) ∧ ∀ k, k < i → p[i]? = p[k]? → q[i]? = q[k]?
def Cov (p q : List ByteArray) : Prop := ∀ i, i < p.length → CovI p q i
open Classical in
noncomputable def coversB (p q : FactV) : Bool := ((isPatB p && isPatB q) && ((p.rel.toList == q.rel.toList) && decide (p.args.length = q.args.length))) && decide (Cov p.args q.args)
theorem cov_1 {p q : FactV} (h : isPatB p = false) : coversB p q = false := by unfold coversB; rw [h]; simp
theorem cov_2 {p q : FactV} (h : isPatB q = false) : coversB p q = false := by unfold coversB; rw [h]; simp
theorem cov_3 {p q : FactV} (h : (p.rel.toList == q.rel.toList) = false) : coversB p q = false := by unfold coversB; rw [h]; simp
theorem cov_4 {p q : FactV} (h : p.args.length ≠ q.args.length) : coversB p q = false := by unfold coversB; simp [h]
theorem cov_t {p q : FactV} (h1 : isPatB p = true) (h2 : isPatB q = true) (h3 : (p.rel.toList == q.rel.toList) = true) (h4 : p.args.length = q.args.length) (h : Cov p.args q.args) : coversB p q = true := by
  unfold coversB; rw [h1, h2, h3]; simp [h4, h]
theorem cov_f {p q : FactV} {i : Nat} (hi : i < p.args.length) (h : ¬ CovI p.args q.args i) : coversB p q = false := by
  have : ¬ Cov p.args q.args := fun hc => h (hc i hi)
  unfold coversB; simp [this]
/- the reference's rounds -/
theorem covI_a {p q : List ByteArray} {i : Nat} (hi : i < p.length) (hi' : i < q.length) (ha : isAtomB p[i] = true) (hne : (p[i].toList == q[i].toList) = false) : ¬ CovI p q i := fun h =>
  str_eq_f hne (h.1 _ _ (List.getElem?_eq_getElem hi) (List.getElem?_eq_getElem hi') ha)
theorem covI_k {p q : List ByteArray} {i k : Nat} (hi : i < p.length) (hi' : i < q.length) (hk : k < i) (he : (p[i].toList == p[k].toList) = true) (hne : (q[i].toList == q[k].toList) = false) : ¬ CovI p q i := fun h => by
  have h1 := h.2 k hk (by rw [List.getElem?_eq_getElem hi, List.getElem?_eq_getElem (by omega), str_eq_t he])
  rw [List.getElem?_eq_getElem hi', List.getElem?_eq_getElem (by omega)] at h1
  exact str_eq_f hne (by simpa using h1)
def CovTo (p q : List ByteArray) (i : Nat) : Prop := ∀ j, j < i → CovI p q j
def CovIn (p q : List ByteArray) (i k : Nat) : Prop :=
  (∀ a b, p[i]? = some a → q[i]? = some b → isAtomB a = true → a = b) ∧ ∀ j, j < k → p[i]? = p[j]? → q[i]? = q[j]?
theorem covTo_0 {p q : List ByteArray} : CovTo p q 0 := fun j hj => by omega
theorem covTo_succ {p q : List ByteArray} {i : Nat} (h : CovTo p q i) (h' : CovIn p q i i) : CovTo p q (i + 1) := fun j hj => by
  rcases Nat.lt_or_ge j i with h1 | h1
  · exact h j h1
  · obtain rfl : j = i := by omega
    exact h'
theorem covTo_end {p q : List ByteArray} {i : Nat} (h : CovTo p q i) (hi : p.length ≤ i) : Cov p q := fun j hj => h j (by omega)
theorem covIn_0 {p q : List ByteArray} {i : Nat} (hi : i < p.length) (hi' : i < q.length) (h : isAtomB p[i] = false ∨ (p[i].toList == q[i].toList) = true) : CovIn p q i 0 :=
  ⟨fun a b h1 h2 h3 => by
    rw [List.getElem?_eq_getElem hi] at h1; rw [List.getElem?_eq_getElem hi'] at h2
    cases h1; cases h2
    rcases h with h | h
    · rw [h] at h3; cases h3
    · exact str_eq_t h, fun j hj => by omega⟩
theorem covIn_succ {p q : List ByteArray} {i k : Nat} (h : CovIn p q i k) (hi : i < p.length) (hi' : i < q.length) (hk : k < i) (hs : (p[i].toList == p[k].toList) = false ∨ (q[i].toList == q[k].toList) = true) : CovIn p q i (k + 1) :=
  ⟨h.1, fun j hj he => by
    rcases Nat.lt_or_ge j k with h1 | h1
    · exact h.2 j h1 he
    · obtain rfl : j = k := by omega
      rcases hs with hs | hs
      · rw [List.getElem?_eq_getElem hi, List.getElem?_eq_getElem (by omega)] at he
        exact absurd (by simpa using he) (str_eq_f hs)
      · rw [List.getElem?_eq_getElem hi', List.getElem?_eq_getElem (by omega), str_eq_t hs]⟩
/- the program's map -/
def MInv (p q : List ByteArray) (k : Nat) (m : ByteArray → Option ByteArray) : Prop :=
  ∀ s, (∀ v, m s = some v → ∃ j, j < k ∧ p[j]? = some s ∧ q[j]? = some v) ∧ (m s = none → isAtomB s = false → ∀ j, j < k → p[j]? ≠ some s)
theorem minv_0 {p q : List ByteArray} : MInv p q 0 (fun _ => none) := fun s => ⟨fun v h => by simp at h, fun _ _ j hj => by omega⟩
theorem minv_atom {p q : List ByteArray} {i : Nat} {m : ByteArray → Option ByteArray} (h : MInv p q i m) (hi : i < p.length) (ha : isAtomB p[i] = true) : MInv p q (i + 1) m := fun s => by
  refine ⟨fun v hv => ?_, fun hn hs j hj he => ?_⟩
  · obtain ⟨j, h1, h2⟩ := (h s).1 v hv; exact ⟨j, by omega, h2⟩
  · rcases Nat.lt_or_ge j i with h1 | h1
    · exact (h s).2 hn hs j h1 he
    · obtain rfl : j = i := by omega
      rw [List.getElem?_eq_getElem hi] at he; cases he
      rw [ha] at hs; cases hs
theorem minv_put {p q : List ByteArray} {i : Nat} {m : ByteArray → Option ByteArray} (h : MInv p q i m) (hi : i < p.length) (hi' : i < q.length) : MInv p q (i + 1) (fun u => if u = p[i] then some q[i] else m u) := fun s => by
  by_cases hs : s = p[i]
  · subst hs
    refine ⟨fun v hv => ?_, fun hn => ?_⟩
    · simp only [if_true] at hv; cases hv; exact ⟨i, by omega, List.getElem?_eq_getElem hi, List.getElem?_eq_getElem hi'⟩
    · simp at hn
  · refine ⟨fun v hv => ?_, fun hn ha j hj he => ?_⟩
    · simp only [if_neg hs] at hv; obtain ⟨j, h1, h2⟩ := (h s).1 v hv; exact ⟨j, by omega, h2⟩
    · simp only [if_neg hs] at hn
      rcases Nat.lt_or_ge j i with h1 | h1
      · exact (h s).2 hn ha j h1 he
      · obtain rfl : j = i := by omega
        rw [List.getElem?_eq_getElem hi] at he; exact hs (by simpa using he.symm)
theorem covM_atom {p q : List ByteArray} {i : Nat} (h : CovTo p q i) (hi : i < p.length) (hi' : i < q.length) (hl : p.length = q.length) (ha : isAtomB p[i] = true) (he : (p[i].toList == q[i].toList) = true) : CovTo p q (i + 1) :=
  covTo_succ h ⟨(covIn_0 hi hi' (.inr he)).1, fun k hk hp => by
    have hk' : k < p.length := by omega
    rw [List.getElem?_eq_getElem hi, List.getElem?_eq_getElem hk'] at hp
    have hp' : p[i] = p[k] := by simpa using hp
    have h1 := (h k hk).1 _ _ (List.getElem?_eq_getElem hk') (List.getElem?_eq_getElem (by omega)) (by rw [← hp']; exact ha)
    rw [List.getElem?_eq_getElem hi', List.getElem?_eq_getElem (by omega), ← h1, ← hp', str_eq_t he]⟩
theorem covM_bad {p q : List ByteArray} {i : Nat} {m : ByteArray → Option ByteArray} {x : ByteArray} (hm : MInv p q i m) (hi : i < p.length) (hi' : i < q.length) (hx : m p[i] = some x) (hne : (x.toList == q[i].toList) = false) : ¬ CovI p q i := fun h => by
  obtain ⟨j, h1, h2, h3⟩ := (hm p[i]).1 x hx
  have h4 := h.2 j h1 (by rw [h2, List.getElem?_eq_getElem hi])
  rw [h3, List.getElem?_eq_getElem hi'] at h4
  exact str_eq_f hne (by simpa using h4.symm)
theorem covM_ok {p q : List ByteArray} {i : Nat} {m : ByteArray → Option ByteArray} {x : ByteArray} (h : CovTo p q i) (hm : MInv p q i m) (hi : i < p.length) (hi' : i < q.length) (ha : isAtomB p[i] = false) (hx : m p[i] = some x) (he : (x.toList == q[i].toList) = true) : CovTo p q (i + 1) :=
  covTo_succ h ⟨(covIn_0 hi hi' (.inl ha)).1, fun k hk hp => by
    obtain ⟨j, h1, h2, h3⟩ := (hm p[i]).1 x hx
    rw [str_eq_t he] at h3
    rw [List.getElem?_eq_getElem hi', ← h3]
    have hp' : p[k]? = p[j]? := by rw [h2, ← hp, List.getElem?_eq_getElem hi]
    rcases Nat.lt_trichotomy k j with h4 | h4 | h4
    · exact (h j h1).2 k h4 hp'.symm
    · rw [h4]
    · exact ((h k hk).2 j h4 hp').symm⟩
theorem covM_new {p q : List ByteArray} {i : Nat} {m : ByteArray → Option ByteArray} (h : CovTo p q i) (hm : MInv p q i m) (hi : i < p.length) (hi' : i < q.length) (ha : isAtomB p[i] = false) (hx : m p[i] = none) : CovTo p q (i + 1) :=
  covTo_succ h ⟨(covIn_0 hi hi' (.inl ha)).1, fun k hk hp => absurd (by rw [← hp, List.getElem?_eq_getElem hi]) ((hm p[i]).2 hx ha k hk)⟩
end Go.Proofs.Ytpkphijfncbbiaa
