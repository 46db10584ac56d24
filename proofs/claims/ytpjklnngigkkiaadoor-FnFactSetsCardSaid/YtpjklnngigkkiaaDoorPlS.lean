/- The plain laws of facts that are added and removed; no condition: nothing of the program is named here. -/
import Derived.Test.YtpjklnngigkkiaaDoorOrd
namespace Go.Proofs.YtpjklnngigkkiaaDoor
open Go.RowKit
set_option linter.unusedVariables false
theorem add_law {L : List FactV} {f : FactV} (h : addOk L f = true) :
    areFB (putF L f) = true ∧ 0 ≤ findB (putF L f) f ∧ (putF L f).length = L.length + 1 ∧ remOk (putF L f) f = true ∧ remV (putF L f) f = L := by
  unfold addOk at h
  simp only [Bool.and_eq_true, decide_eq_true_eq] at h
  obtain ⟨⟨h1, h2⟩, h3, h4⟩ := h
  have hf := findB_neg.1 h3
  obtain ⟨l1, l2, l3⟩ := (areFB_iff L).1 h1
  have hl := putF_len hf
  have hA : areFB (putF L f) = true := (areFB_iff _).2 ⟨by omega, fun g hg => by
    rcases (putF_mem L f g).1 hg with rfl | hg
    · exact h2
    · exact l2 g hg, putF_asc l3⟩
  have hF : 0 ≤ findB (putF L f) f := by
    have : ¬ findB (putF L f) f < 0 := fun hn => findB_neg.1 hn ((putF_mem L f f).2 (.inl rfl))
    omega
  have hR : remOk (putF L f) f = true := by unfold remOk; rw [hA, decide_eq_true hF]; rfl
  refine ⟨hA, hF, hl, hR, ?_⟩
  unfold remV
  rw [if_pos hR]
  exact rm_put l3 hf
theorem rem_law {L : List FactV} {f : FactV} (h : remOk L f = true) :
    areFB (rmF L f) = true ∧ findB (rmF L f) f < 0 ∧ addOk (rmF L f) f = true ∧ addV (rmF L f) f = L := by
  unfold remOk at h
  simp only [Bool.and_eq_true, decide_eq_true_eq] at h
  obtain ⟨h1, h2⟩ := h
  obtain ⟨l1, l2, l3⟩ := (areFB_iff L).1 h1
  have hm : f ∈ L := by
    apply Classical.byContradiction
    intro hn
    have := findB_neg.2 hn
    omega
  have hn : f ∉ rmF L f := fun hh => ((rmF_mem L f f).1 hh).2 rfl
  have hp := put_rm l3 hm
  have hl := putF_len hn
  rw [hp] at hl
  have hA : areFB (rmF L f) = true := (areFB_iff _).2 ⟨by omega, fun g hg => l2 g ((rmF_mem L f g).1 hg).1, rmF_asc l3⟩
  have hF := findB_neg.2 hn
  have hO : addOk (rmF L f) f = true := by
    unfold addOk
    rw [hA, l2 f hm, decide_eq_true hF, decide_eq_true (show (rmF L f).length < 24 by omega)]; rfl
  refine ⟨hA, hF, hO, ?_⟩
  unfold addV
  rw [if_pos hO, hp]
theorem sameFs_one (a b : FactV) : sameFsB [a] [b] = sameFB a b := by unfold sameFsB; simp [sameFsB]
theorem cmpF_zero (a b : FactV) : decide (cmpF a b = 0) = sameFB a b := by
  rw [Bool.eq_iff_iff, decide_eq_true_eq, sameFB_iff]
  exact ord_F.zero a b
theorem cmpA_rng (a b : ByteArray) : -1 ≤ cmpA a b ∧ cmpA a b ≤ 1 := by rcases cmpA_vals a b with ⟨-, h, -⟩ | ⟨-, h, -⟩ | ⟨-, h, -⟩ <;> rw [h] <;> omega
theorem cmpL_rng : ∀ x y : List ByteArray, -1 ≤ cmpL x y ∧ cmpL x y ≤ 1
  | [], [] => by unfold cmpL; omega
  | [], _ :: _ => by unfold cmpL; omega
  | _ :: _, [] => by unfold cmpL; omega
  | a :: r, b :: s => by
    unfold cmpL
    split
    · exact cmpL_rng r s
    · exact cmpA_rng a b
theorem cmpF_rng (f g : FactV) : -1 ≤ cmpF f g ∧ cmpF f g ≤ 1 := by
  unfold cmpF
  split
  · exact cmpL_rng _ _
  · rcases cmpS_vals f.rel g.rel with h | h | h <;> rw [h] <;> omega
end Go.Proofs.YtpjklnngigkkiaaDoor
