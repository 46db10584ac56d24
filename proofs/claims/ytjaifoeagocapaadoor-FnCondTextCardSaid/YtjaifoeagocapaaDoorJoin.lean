/- Join, the program's and the reference's: the texts with another one between them; wherever the lengths can be counted. -/
import Derived.Test.YtjaifoeagocapaaDoorShelf
import Derived.Test.YtjaifoeagocapaaDoorApp
import Derived.Test.YtjaifoeagocapaaDoorPl5
namespace Go.Proofs.YtjaifoeagocapaaDoor
open Go.RowKit
attribute [local go_sem ↓] Go.wp_at_zero Go.wp_at_succ
set_option linter.unusedVariables false
theorem joinB_succ' (L : List ByteArray) (sep : ByteArray) (k : Nat) (h : k < L.length) : joinB (L.take (k + 1)) sep = if k = 0 then joinB (L.take k) sep ++ L[k] else joinB (L.take k) sep ++ sep ++ L[k] := by
  cases k with
  | zero =>
    rw [List.take_succ_eq_append_getElem h]
    simp [joinB_one, joinB_nil]
  | succ k => rw [joinB_succ L sep k h]; simp
theorem lj_len {L : List ByteArray} (h : tsz L ≤ 4194304) : L.length ≤ 4194304 := by unfold tsz at h; omega
theorem lj_sz {L : List ByteArray} {sep : ByteArray} (h : tsz L ≤ 1048576) (hs : sep.size ≤ 1048576) : (joinB L sep).size ≤ 140737488355328 := by
  rw [joinB_size, tlen_tsum]
  unfold tsz at h
  have h1 : (L.length - 1) * sep.size ≤ 1048576 * 1048576 := Nat.mul_le_mul (by omega) hs
  omega
set_option maxHeartbeats 400000 in
theorem cJoin {v : Value} {x : List ByteArray} {sep : ByteArray} {lo hi : Nat} {w : World} (h : Ob TX w lo hi v x) (hl : x.length ≤ 4194304) (hz : (joinB x sep).size ≤ 140737488355328) :
    Calls Tryd.prog 33 #[v, .string sep] w fun e w' => e = .returned (.string (joinB x sep)) ∧ Up w w' := by
  obtain ⟨a, cap, rfl⟩ := h.1.form
  by_cases hx : x = []
  · subst hx
    clear h
    go_enter Tryd.func33, Tryd.ntmps33
    go_wp2_with fail
    refine (Tryd.strings_Join_none _ _ _ _).mono ?_
    rintro e w' ⟨rfl, rfl⟩
    go_wp2
    go_ret
    exact ⟨rfl, Up.rf _⟩
  · have hp : 0 < x.length := List.length_pos_iff.2 hx
    obtain ⟨a', cap', e, hc, hm, hv⟩ := h.1
    injection e with e1 e2 e3
    obtain ⟨b, off, rfl, hlb, hbh, hcell⟩ := hv hp
    subst e1 e3
    have hb : b < w.heap.size := by have := h.2; omega
    have HC : Hid (∀ (j : Nat) y, x[j]? = some y → w.cell? ⟨b, off + j, none⟩ = some (.string y)) := by
      intro j y hj
      obtain ⟨hj1, rfl⟩ := List.getElem?_eq_some_iff.1 hj
      exact hcell j hj1
    have hz' : (Lib.join (x.map (·.data.toList)) sep.data.toList).length ≤ 140737488355328 := by
      have := hz; rw [Lib.size_eq, joinB_data] at this; exact this
    have HZ := Lib.hid hz'
    clear hcell hv h hz' hz e2 hx
    go_enter Tryd.func33, Tryd.ntmps33
    go_wp2_with fail
    refine (Tryd.strings_Join b off cap x sep _ HC.out hb (by omega) hc HZ.out).mono ?_
    rintro e w' ⟨rfl, hb2⟩
    have HB := Lib.hid hb2
    clear hb2
    go_wp2
    go_ret
    exact ⟨rfl, HB.out⟩
end Go.Proofs.YtjaifoeagocapaaDoor
