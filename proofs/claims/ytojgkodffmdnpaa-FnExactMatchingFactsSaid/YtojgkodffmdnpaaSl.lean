/- Lists of the call's own and parts of lists; no condition: nothing of the program is named here. -/
import Derived.Test.YtojgkodffmdnpaaApp
namespace Go.Proofs.Ytojgkodffmdnpaa
open Go.RowKit
set_option linter.unusedVariables false
theorem SO.mono9 {E EF : TypeId} {w : World} {lo hi lo' hi' : Nat} {v : Value} {L : List FactV} (h : SO E EF w lo hi v L) (h1 : lo' ≤ lo) (h2 : hi ≤ hi') : SO E EF w lo' hi' v L := by
  obtain ⟨vs, hl, ho, hh, ht, hd⟩ := h
  exact ⟨vs, hl, ho.mono h1, fun g hg => by have := hh g hg; omega, fun i a b => (ht i a b).mono h1 h2, hd⟩
theorem SO.up9 {E EF : TypeId} {w w' : World} {lo : Nat} {v : Value} {L : List FactV} (h : SO E EF w lo w.heap.size v L) (hb : Up w w') : SO E EF w' lo w'.heap.size v L :=
  (((show Ob (SO E EF) w lo w.heap.size v L from ⟨h, Nat.le_refl _⟩).up hb).1).mono9 (Nat.le_refl _) hb.size
theorem SO.made9 (E EF : TypeId) (w : World) {g : Nat} (hg : w.heap.size = g) : SO E EF (w.alloc (.cells #[] EF)) w.heap.size (w.alloc (.cells #[] EF)).heap.size (.slice (some ⟨g, 0, none⟩) 0 0) [] := by subst hg; exact SO.made_ E EF w
theorem SL.take_ {α : Type} {R : World → Nat → Nat → List Value → α → Prop} {size : Nat} {w : World} {lo hi n cap k : Nat} {a : Option Addr} {L : List α} (h : SL R size w lo hi (.slice a n cap) L) (hk : k ≤ L.length) : SL R size w lo hi (.slice a k cap) (L.take k) := by
  obtain ⟨a', cap', e, h1, h2, hv⟩ := h
  injection e with e1 e2 e3
  subst e1 e3
  have hl : (L.take k).length = k := by rw [List.length_take]; omega
  refine ⟨a, cap, by rw [hl], by omega, h2, fun hp => ?_⟩
  obtain ⟨b, off, rfl, l1, l2, hc⟩ := hv (by omega)
  exact ⟨b, off, rfl, l1, l2, fun i hi => by rw [List.getElem_take]; exact hc i (by omega)⟩
theorem SL.drop_ {α : Type} {R : World → Nat → Nat → List Value → α → Prop} {size : Nat} {w : World} {lo hi n cap j b off : Nat} {L : List α} (h : SL R size w lo hi (.slice (some ⟨b, off, none⟩) n cap) L) (hj : j ≤ L.length) : SL R size w lo hi (.slice (some ⟨b, off + j * size, none⟩) (n - j) (cap - j)) (L.drop j) := by
  obtain ⟨a', cap', e, h1, h2, hv⟩ := h
  injection e with e1 e2 e3
  subst e1 e3
  have hl : (L.drop j).length = n - j := by rw [List.length_drop, e2]
  refine ⟨_, cap - j, by rw [hl], by omega, by omega, fun hp => ?_⟩
  obtain ⟨b', off', e9, l1, l2, hc⟩ := hv (by omega)
  injection e9 with e9
  injection e9 with e9a e9b
  subst e9a e9b
  refine ⟨b, off + j * size, rfl, l1, l2, fun i hi => ?_⟩
  obtain ⟨cs, hcl, hcc, hr⟩ := hc (j + i) (by omega)
  refine ⟨cs, hcl, fun m hm => ?_, by rw [List.getElem_drop]; exact hr⟩
  rw [← hcc m hm]
  congr 2
  rw [Nat.add_mul]; omega
end Go.Proofs.Ytojgkodffmdnpaa
