/- The contracts of the laws' own functions on lists of facts (size, copy, equality), and of FindFact and SameFacts; wherever the lengths can be counted. -/
import Derived.Test.YtpkphijfncbbiaaPair
namespace Go.Proofs.Ytpkphijfncbbiaa
open Go.RowKit
attribute [local go_sem ↓] Go.wp_at_zero Go.wp_at_succ
set_option linter.unusedVariables false
def fsum : List FactV → Nat
  | [] => 0
  | p :: r => fsz p + fsum r
def fssz (L : List FactV) : Nat := L.length + fsum L
theorem fsum_append (A B : List FactV) : fsum (A ++ B) = fsum A + fsum B := by
  induction A with
  | nil => simp [fsum]
  | cons a A ih => simp [fsum, ih]; omega
theorem fsum_take_succ (L : List FactV) (k : Nat) (h : k < L.length) : fsum (L.take (k + 1)) = fsum (L.take k) + fsz L[k] := by
  rw [List.take_succ_eq_append_getElem h, fsum_append]; simp [fsum]
theorem fsum_take_le (L : List FactV) (k : Nat) : fsum (L.take k) ≤ fsum L := by
  conv => rhs; rw [← List.take_append_drop k L]
  rw [fsum_append]; omega
theorem fsum_mem {L : List FactV} {f : FactV} (h : f ∈ L) : fsz f ≤ fsum L := by
  induction L with
  | nil => cases h
  | cons a L ih =>
    rcases List.mem_cons.1 h with rfl | h
    · simp [fsum]
    · have := ih h; simp [fsum]; omega
def okFs (L : List FactV) : Prop := ∀ p ∈ L, okF p
/- rows of texts, no two the same, each the call's own -/
def FRows (E : TypeId) (w : World) (lo hi : Nat) (vs : List Value) (L : List FactV) : Prop :=
  vs.length = L.length ∧ (∀ i (h : i < L.length) (h' : i < vs.length), TO E w lo hi vs[i] L[i].args) ∧ (∀ i j g (h : i < vs.length) (h' : j < vs.length), vs[i].ownBlock = some g → vs[j].ownBlock = some g → i = j)
theorem FRows.nil {E : TypeId} {w : World} {lo hi : Nat} : FRows E w lo hi [] [] := ⟨rfl, fun i h => by simp at h, fun i j g h => by simp at h⟩
theorem FRows.keep {E : TypeId} {w w' : World} {lo hi : Nat} {vs : List Value} {L : List FactV} (h : FRows E w lo hi vs L) (hk : Stays w w' lo hi) : FRows E w' lo hi vs L :=
  ⟨h.1, fun i h1 h2 => (h.2.1 i h1 h2).keep hk, h.2.2⟩
theorem FRows.mono {E : TypeId} {w : World} {lo hi lo' hi' : Nat} {vs : List Value} {L : List FactV} (h : FRows E w lo hi vs L) (h1 : lo' ≤ lo) (h2 : hi ≤ hi') : FRows E w lo' hi' vs L :=
  ⟨h.1, fun i h3 h4 => (h.2.1 i h3 h4).mono h1 h2, h.2.2⟩
theorem TO.own {E : TypeId} {w : World} {lo hi g : Nat} {v : Value} {L : List ByteArray} (h : TO E w lo hi v L) (hg : v.ownBlock = some g) : lo ≤ g ∧ g < hi := ⟨(h.1.lt g hg).1, h.2 g hg⟩
theorem FRows.snoc {E : TypeId} {w : World} {lo hi mid : Nat} {vs : List Value} {L : List FactV} {v : Value} {f : FactV} (h : FRows E w lo mid vs L) (hv : TO E w mid hi v f.args) (h1 : lo ≤ mid) (h2 : mid ≤ hi) : FRows E w lo hi (vs ++ [v]) (L ++ [f]) := by
  obtain ⟨hl, ht, hd⟩ := h
  refine ⟨by simp [hl], fun i h3 h4 => ?_, fun i j g h3 h4 g1 g2 => ?_⟩
  · by_cases hi : i < L.length
    · rw [List.getElem_append_left (by omega), List.getElem_append_left hi]; exact (ht i hi (by omega)).mono (Nat.le_refl _) h2
    · obtain rfl : i = L.length := by simp at h3; omega
      rw [List.getElem_append_right (by omega), List.getElem_append_right (by omega)]; simp only [hl, Nat.sub_self, List.getElem_cons_zero]; exact hv.mono h1 (Nat.le_refl _)
  · simp only [List.length_append, List.length_singleton] at h3 h4
    by_cases hi : i < vs.length <;> by_cases hj : j < vs.length
    · rw [List.getElem_append_left hi] at g1; rw [List.getElem_append_left hj] at g2; exact hd i j g hi hj g1 g2
    · rw [List.getElem_append_left hi] at g1; rw [List.getElem_append_right (by omega)] at g2
      have e1 := (ht i (by omega) hi).own g1
      have e2 := hv.own (by simpa using g2)
      omega
    · rw [List.getElem_append_left hj] at g2; rw [List.getElem_append_right (by omega)] at g1
      have e1 := (ht j (by omega) hj).own g2
      have e2 := hv.own (by simpa using g1)
      omega
    · omega
theorem flatF_snoc (A : List FactV) (vs : List Value) (f : FactV) (v : Value) (h : vs.length = A.length) : flatF (A ++ [f]) (vs ++ [v]) = flatF A vs ++ [.string f.rel, v] := by
  rw [flatF_append _ _ _ _ h]; rfl
theorem take_set2 {α : Type} (xs : List α) (i : Nat) (a b : α) (h : i + 1 < xs.length) : ((xs.set i a).set (i + 1) b).take (i + 2) = xs.take i ++ [a, b] := by
  have e1 : ((xs.set i a).set (i + 1) b).length = xs.length := by simp
  rw [show i + 2 = i + 1 + 1 by omega, List.take_succ_eq_append_getElem (by omega), List.take_set_of_le (Nat.le_refl _), List.take_succ_eq_append_getElem (by simp; omega), List.take_set_of_le (Nat.le_refl _)]
  simp
theorem SO.mk_ {E EF : TypeId} {w : World} {lo hi : Nat} {v : Value} {vs : List Value} {L : List FactV} (h : w.ownsRow lo EF 2 v L.length (flatF L vs)) (hh : ∀ g, v.ownBlock = some g → g < hi) (hr : FRows E w lo hi vs L) : SO E EF w lo hi v L :=
  ⟨vs, hr.1, h, hh, hr.2.1, hr.2.2⟩
end Go.Proofs.Ytpkphijfncbbiaa
