/- The plain laws of tests and of conditions that something is there or is not; no condition: nothing of the program is named here. -/
import Derived.Test.YtpjklnngigkkiaaDoorHold
namespace Go.Proofs.YtpjklnngigkkiaaDoor
open Go.RowKit
set_option linter.unusedVariables false
def testC (k : Int) (l r : ByteArray) : CondV := ⟨k, ⟨⟨#[]⟩, []⟩, l, r⟩
def patC (k : Int) (p : FactV) : CondV := ⟨k, p, ⟨#[]⟩, ⟨#[]⟩⟩
theorem valOk_term {b : Prs} {t : ByteArray} (h : valOk b t = true) : isTermB t = true := by
  unfold valOk valueB at h
  unfold isTermB
  cases h1 : isAtomB t with
  | true => rfl
  | false =>
    cases h2 : isVarB t with
    | true => rfl
    | false => rw [h1, h2] at h; simp at h
theorem holdsT_made {b : Prs} {l r : ByteArray} {k : Int} (hk : k = 3 ∨ k = 4 ∨ k = 5) :
    holdsTB (testC k l r) b = (if isBindB b && (valOk b l && valOk b r) then testB k (valS b l) (valS b r) else false) := by
  have ht : valOk b l = true → valOk b r = true → isTestB (testC k l r) = true := fun h1 h2 => by
    have e1 := valOk_term h1
    have e2 := valOk_term h2
    rcases hk with rfl | rfl | rfl <;> simp [isTestB, isCondB, testC, e1, e2, zeroB]
  unfold holdsTB
  show (if (isTestB (testC k l r) && isBindB b) && (valOk b l && valOk b r) then testB k (valS b l) (valS b r) else false) = _
  cases h1 : valOk b l
  · simp
  · cases h2 : valOk b r
    · simp
    · rw [ht h1 h2]; simp
theorem test_no {b : Prs} {l r : ByteArray} {k : Int} (hk : k = 3 ∨ k = 4 ∨ k = 5) (h : isBindB b = false ∨ valOk b l = false ∨ valOk b r = false) : holdsTB (testC k l r) b = false := by
  rw [holdsT_made hk]
  rcases h with h | h | h <;> rw [h] <;> simp
theorem test_law {b : Prs} {l r : ByteArray} (h0 : isBindB b = true) (h1 : valOk b l = true) (h2 : valOk b r = true) :
    (holdsTB (testC 3 l r) b != holdsTB (testC 4 l r) b) = true ∧ (holdsTB (testC 5 l r) b = true → holdsTB (testC 4 l r) b = true) ∧ ¬ (holdsTB (testC 5 l r) b = true ∧ holdsTB (testC 5 r l) b = true) := by
  rw [holdsT_made (.inl rfl), holdsT_made (.inr (.inl rfl)), holdsT_made (.inr (.inr rfl)), holdsT_made (.inr (.inr rfl)), h0, h1, h2]
  generalize valS b l = x
  generalize valS b r = y
  simp only [Bool.and_self, if_true]
  unfold testB
  simp only [show ¬ ((4 : Int) = 3) by decide, show ¬ ((5 : Int) = 3) by decide, show ¬ ((5 : Int) = 4) by decide, if_true, if_false]
  refine ⟨by cases (x.toList == y.toList) <;> rfl, fun h => ?_, fun h => ?_⟩
  · simp only [Bool.and_eq_true, decide_eq_true_eq] at h
    cases hq : (x.toList == y.toList) with
    | false => rfl
    | true =>
      have := str_eq_t hq
      subst this
      omega
  · simp only [Bool.and_eq_true, decide_eq_true_eq] at h
    omega
theorem has_no {b : Prs} {p : FactV} {L : List FactV} {k : Int} (hk : k = 1 ∨ k = 2) (h : isPatB p = false ∨ isBindB b = false) : holdsCB (patC k p) b L = false := by
  unfold holdsCB
  rcases h with h | h
  · have : isCondB (patC k p) = false := by rcases hk with rfl | rfl <;> simp [isCondB, patC, h]
    rw [this]; rfl
  · rw [h]; simp
theorem has_law {b : Prs} {p : FactV} {L : List FactV} (h0 : isPatB p = true) (h1 : isBindB b = true) :
    holdsCB (patC 1 p) b L = decide (0 < (mfsF p b L).length) ∧ holdsCB (patC 2 p) b L = decide ((mfsF p b L).length = 0) := by
  have e1 : isCondB (patC 1 p) = true := by simp [isCondB, patC, h0]
  have e2 : isCondB (patC 2 p) = true := by simp [isCondB, patC, h0]
  constructor
  · unfold holdsCB; rw [e1, h1]; rfl
  · unfold holdsCB; rw [e2, h1]; simp [patC]
end Go.Proofs.YtpjklnngigkkiaaDoor
