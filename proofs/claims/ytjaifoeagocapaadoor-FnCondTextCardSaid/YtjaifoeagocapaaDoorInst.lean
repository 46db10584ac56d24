/- Instance, the program's and the reference's: one plain function of the pattern and the binding; wherever the lengths can be counted. -/
import Derived.Test.YtjaifoeagocapaaDoorMatch
namespace Go.Proofs.YtjaifoeagocapaaDoor
open Go.RowKit
attribute [local go_sem ↓] Go.wp_at_zero Go.wp_at_succ
set_option linter.unusedVariables false
theorem insV_1 {p : FactV} {y : Prs} (h : isPatB p = false) : insV p y = none := by unfold insV; rw [h]; simp
theorem insV_2 {p : FactV} {y : Prs} (h : isBindB y = false) : insV p y = none := by unfold insV; rw [h]; simp
theorem insV_3 {p : FactV} {y : Prs} {k : Nat} (hk : k < p.args.length) (h : valOk y p.args[k] = false) : insV p y = none := by
  unfold insV
  have : p.args.all (valOk y) = false := List.all_eq_false.2 ⟨_, List.getElem_mem hk, by rw [h]; simp⟩
  rw [this]; simp
theorem insV_0 {p : FactV} {y : Prs} (h1 : isPatB p = true) (h2 : isBindB y = true) (h : p.args.all (valOk y) = true) : insV p y = some ⟨p.rel, p.args.map (valS y)⟩ := by
  unfold insV; rw [h1, h2, h]; simp
theorem FO.zero_ {E : TypeId} {w : World} {lo : Nat} {o : Option FactV} (h : o = none) : Ob (FO E) w lo w.heap.size (.agg #[.string ⟨#[]⟩, .slice none 0 0]) (oF o) := by
  rw [h]; exact ⟨⟨_, rfl, TO.nil_ _ _ _ _⟩, Nat.le_refl _⟩
theorem oF_ct (p : FactV) (y : Prs) : (oF (insV p y)).args.length ≤ p.args.length := by
  unfold insV; split
  · split <;> simp [oF, fV0]
  · simp [oF, fV0]
theorem valS_size {y : Prs} {t : ByteArray} (hy : isBindB y = true) (h : valOk y t = true) : (valS y t).size ≤ 8 := by
  unfold valOk valueB at h; unfold valS valueB
  split at h
  · rename_i ha; rw [if_pos ha]; exact (isAtomB_size ha).2
  · rename_i ha
    rw [if_neg ha]
    split at h
    · rename_i hv
      rw [if_pos hv]
      unfold findP at h ⊢
      cases hf : y.find? (fun p => decide (p.1 = t)) with
      | none => rw [hf] at h; simp at h
      | some q =>
        have hm := List.mem_of_find?_eq_some hf
        obtain ⟨k, hk, rfl⟩ := List.mem_iff_getElem.1 hm
        have := (isBindB_at hy hk).2
        simpa using (isAtomB_size this).2
    · simp at h
theorem oF_ins_fsz {p : FactV} {y : Prs} (hz : fsz p ≤ 1048576) : fsz (oF (insV p y)) ≤ 4194304 := by
  unfold insV
  split
  · rename_i hg
    simp only [Bool.and_eq_true] at hg
    split
    · rename_i ha
      rw [List.all_eq_true] at ha
      have h3 : p.args.length ≤ 3 := by
        have := hg.1; unfold isPatB at this; simp only [Bool.and_eq_true, decide_eq_true_eq] at this; exact this.1.2
      have hs : tsum (p.args.map (valS y)) ≤ p.args.length * 8 := by
        suffices h : ∀ L : List ByteArray, (∀ s ∈ L, valOk y s = true) → tsum (L.map (valS y)) ≤ L.length * 8 from h _ ha
        intro L
        induction L with
        | nil => simp [tsum]
        | cons a r ih =>
          intro hL
          have h1 := valS_size hg.2 (hL a (by simp))
          have h2 := ih fun s hs => hL s (by simp [hs])
          simp only [List.map_cons, tsum, List.length_cons, Nat.add_mul, Nat.one_mul]; omega
      simp only [oF, Option.getD_some]
      unfold fsz tsz at hz ⊢
      simp only [List.length_map]
      omega
    · simp [oF, fV0, fsz, tsz, tsum, ByteArray.size]
  · simp [oF, fV0, fsz, tsz, tsum, ByteArray.size]
end Go.Proofs.YtjaifoeagocapaaDoor
