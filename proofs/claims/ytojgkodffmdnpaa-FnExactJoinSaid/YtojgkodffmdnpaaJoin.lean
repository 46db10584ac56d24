/- Join, the program's and the reference's: the texts with another one between them; wherever the lengths can be counted. -/
import Derived.Test.YtojgkodffmdnpaaShelf
import Derived.Test.YtojgkodffmdnpaaApp
import Derived.Test.YtojgkodffmdnpaaPl5
namespace Go.Proofs.Ytojgkodffmdnpaa
open Go.RowKit
attribute [local go_sem ↓] Go.wp_at_zero Go.wp_at_succ
set_option linter.unusedVariables false
theorem joinB_succ' (L : List ByteArray) (sep : ByteArray) (k : Nat) (h : k < L.length) : joinB (L.take (k + 1)) sep = if k = 0 then joinB (L.take k) sep ++ L[k] else joinB (L.take k) sep ++ sep ++ L[k] := by
  cases k with
  | zero =>
    rw [List.take_succ_eq_append_getElem h]
    simp [joinB_one, joinB_nil]
  | succ k => rw [joinB_succ L sep k h]; simp
theorem lj_len {L : List ByteArray} (h : tsz L ≤ 4194304) : L.length ≤ 4194304 := by unfold tsz at h; omega
theorem lj_sz {L : List ByteArray} {sep : ByteArray} (h : tsz L ≤ 1048576) (hs : sep.size ≤ 1048576) : (joinB L sep).size ≤ 140737488355328 := by
  rw [joinB_size, tlen_tsum]
  unfold tsz at h
  have h1 : (L.length - 1) * sep.size ≤ 1048576 * 1048576 := Nat.mul_le_mul (by omega) hs
  omega
set_option maxHeartbeats 400000 in
theorem cJoin {v : Value} {x : List ByteArray} {sep : ByteArray} {lo hi : Nat} {w : World} (h : Ob TX w lo hi v x) (hl : x.length ≤ 4194304) (hz : (joinB x sep).size ≤ 140737488355328) :
    Calls Try.prog 76 #[v, .string sep] w fun e w' => e = .returned (.string (joinB x sep)) ∧ Up w w' := by
  obtain ⟨a, cap, rfl⟩ := h.1.form
  by_cases hx : x = []
  · subst hx
    clear h
    go_enter Try.func76, Try.ntmps76
    go_wp2_with fail
    refine (Try.strings_Join_none _ _ _ _).mono ?_
    rintro e w' ⟨rfl, rfl⟩
    go_wp2
    go_ret
    exact ⟨rfl, Up.rf _⟩
  · have hp : 0 < x.length := List.length_pos_iff.2 hx
    obtain ⟨a', cap', e, hc, hm, hv⟩ := h.1
    injection e with e1 e2 e3
    obtain ⟨b, off, rfl, hlb, hbh, hcell⟩ := hv hp
    subst e1 e3
    have hb : b < w.heap.size := by have := h.2; omega
    have HC : Hid (∀ (j : Nat) y, x[j]? = some y → w.cell? ⟨b, off + j, none⟩ = some (.string y)) := by
      intro j y hj
      obtain ⟨hj1, rfl⟩ := List.getElem?_eq_some_iff.1 hj
      exact hcell j hj1
    have hz' : (Lib.join (x.map (·.data.toList)) sep.data.toList).length ≤ 140737488355328 := by
      have := hz; rw [Lib.size_eq, joinB_data] at this; exact this
    have HZ := Lib.hid hz'
    clear hcell hv h hz' hz e2 hx
    go_enter Try.func76, Try.ntmps76
    go_wp2_with fail
    refine (Try.strings_Join b off cap x sep _ HC.out hb (by omega) hc HZ.out).mono ?_
    rintro e w' ⟨rfl, hb2⟩
    have HB := Lib.hid hb2
    clear hb2
    go_wp2
    go_ret
    exact ⟨rfl, HB.out⟩
set_option maxHeartbeats 1000000 in
theorem cJoinS {v : Value} {x : List ByteArray} {sep : ByteArray} {lo hi : Nat} {w : World} (h : Ob TX w lo hi v x) (hl : x.length ≤ 4194304) (hz : (joinB x sep).size ≤ 140737488355328) :
    Calls Try.prog 75 #[v, .string sep] w fun e w' => e = .returned (.string (joinB x sep)) ∧ Up w w' := by
  obtain ⟨a, cap, rfl⟩ := h.1.form
  have HV := Lib.hid h
  have HZ := Lib.hid hz
  clear h hz
  go_enter Try.func75, Try.ntmps75
  go_wp2
  go_loop [5, 6] (fun s i => ∃ (k : Nat) (c : ByteArray), k ≤ x.length ∧ i = .int .i64 k ∧ s = .string c ∧ Hid (c = joinB (x.take k) sep)) (fun _ i => x.length - (intOf i).toNat)
  case atStart => exact ⟨0, _, Nat.zero_le _, rfl, rfl, rfl⟩
  case round =>
    obtain ⟨k, c, hk, rfl, rfl, HC⟩ := hrel
    by_cases hlt : k < x.length
    · obtain ⟨b, off, rfl, -, -, c0⟩ := HV.out.1.at hlt
      have i1 : (0 : Int) ≤ (k : Int) := by omega
      have i2 : (k : Int) < (x.length : Int) := by omega
      have HS := Lib.hid (joinB_succ' x sep k hlt)
      have hsz : (joinB (x.take (k + 1)) sep).size ≤ 140737488355328 := by
        have h1 := joinB_size (x.take (k + 1)) sep
        have h2 := joinB_size x sep
        have h3 := tlen_take_le x (k + 1)
        have h4 : ((x.take (k + 1)).length - 1) * sep.size ≤ (x.length - 1) * sep.size := Nat.mul_le_mul_right _ (by simp; omega)
        have := HZ.out; omega
      by_cases h0 : k = 0
      · have HE : Hid (joinB (x.take (k + 1)) sep = c ++ x[k]) := by have h := HS.out; rw [if_pos h0, ← HC.out] at h; exact h
        have hd : decide ((0 : Int) < (k : Int)) = false := decide_eq_false (by omega)
        have hd2 : ¬ 0 < k := by omega
        have hs2 : c.size + x[k].size ≤ 9223372036854775807 := by rw [HE.out, ByteArray.size_append] at hsz; omega
        clear HS h0 hsz
        go_wp2
        exact ⟨⟨k+1, _, by omega, by go_num, rfl, HE.out.symm⟩, by simp [intOf]; omega⟩
      · have HE : Hid (joinB (x.take (k + 1)) sep = c ++ sep ++ x[k]) := by have h := HS.out; rw [if_neg h0, ← HC.out] at h; exact h
        have hd : decide ((0 : Int) < (k : Int)) = true := decide_eq_true (by omega)
        have hd2 : 0 < k := by omega
        have hs1 : c.size + sep.size ≤ 9223372036854775807 := by rw [HE.out, ByteArray.size_append, ByteArray.size_append] at hsz; omega
        have hs2 : (c ++ sep).size + x[k].size ≤ 9223372036854775807 := by rw [HE.out, ByteArray.size_append] at hsz; omega
        clear HS h0 hsz
        go_wp2
        exact ⟨⟨k+1, _, by omega, by go_num, rfl, HE.out.symm⟩, by simp [intOf]; omega⟩
    · have HE : Hid (c = joinB x sep) := by have h := HC.out; rwa [List.take_of_length_le (by omega)] at h
      go_wp2
      go_ret
      exact ⟨ret_str HE.out, Up.rf w⟩
end Go.Proofs.Ytojgkodffmdnpaa
