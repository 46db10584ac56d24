/- FindRule, the program's and the reference's. -/
import Derived.Test.YtojgkodffmdnpaaLs4
namespace Go.Proofs.Ytojgkodffmdnpaa
open Go.RowKit
attribute [local go_sem ↓] Go.wp_at_zero Go.wp_at_succ
set_option linter.unusedVariables false
def findRF (s : ByteArray) : Nat → List RuleV → Int
  | _, [] => -1
  | k, y :: r => if y.name.toList == s.toList then k else findRF s (k + 1) r
def findR (L : List RuleV) (s : ByteArray) : Int := findRF s 0 L
theorem findRF_drop (s : ByteArray) (k : Nat) (L : List RuleV) (h : k < L.length) : findRF s k (L.drop k) = if L[k].name.toList == s.toList then (k : Int) else findRF s (k + 1) (L.drop (k + 1)) := by
  rw [List.drop_eq_getElem_cons h]; rfl
theorem findRF_t {s : ByteArray} {k : Nat} {L : List RuleV} (h : k < L.length) (hq : (L[k].name.toList == s.toList) = true) : findRF s k (L.drop k) = (k : Int) := by rw [findRF_drop s k L h, if_pos hq]
theorem findRF_f {s : ByteArray} {k : Nat} {L : List RuleV} (h : k < L.length) (hq : (L[k].name.toList == s.toList) = false) : findRF s k (L.drop k) = findRF s (k + 1) (L.drop (k + 1)) := by rw [findRF_drop s k L h, if_neg (by rw [hq]; simp)]
theorem findRF_end {s : ByteArray} {k : Nat} {L : List RuleV} (h : L.length ≤ k) : findRF s k (L.drop k) = -1 := by rw [List.drop_of_length_le h]; rfl
set_option maxHeartbeats 1000000 in
theorem cFindRule {v : Value} {x : List RuleV} {s : ByteArray} {lo hi : Nat} {w : World} (h : Ob (SL RuleC 4) w lo hi v x) :
    Calls Try.prog 44 #[v, .string s] w fun e w' => e = .returned (.int .i64 (findR x s)) ∧ Up w w' := by
  have hlen := h.1.len
  obtain ⟨a, cap, rfl⟩ := h.1.form
  have HV := Lib.hid h
  clear h
  go_enter Try.func44, Try.ntmps44
  go_wp2_with fail
  go_loopw [9] (fun i wr => ∃ (k : Nat), k ≤ x.length ∧ i = .int .i64 k ∧ Hid (findR x s = findRF s k (x.drop k)) ∧ Up w wr) (fun i _ => x.length - (intOf i).toNat)
  case atStart => exact ⟨0, Nat.zero_le _, rfl, rfl, Up.rf w⟩
  case round =>
    obtain ⟨k, hk, rfl, H, hb⟩ := hrel
    by_cases hlt : k < x.length
    · obtain ⟨b, off, p, cp, r, cr, rfl, c0, c1, c2, c3, -⟩ := SRu.at (HV.out.up hb).1 hlt
      have i1 : (0 : Int) ≤ (k : Int) := by omega
      have i2 : (k : Int) < (x.length : Int) := by omega
      cases hq : (x[k].name.toList == s.toList)
      · have HF := Lib.hid (H.out.trans (findRF_f hlt hq))
        go_wp2
        exact ⟨⟨k+1, by omega, by go_num, HF, hb.al _⟩, by simp [intOf]; omega⟩
      · have HF := Lib.hid (H.out.trans (findRF_t hlt hq))
        go_wp2
        go_ret
        exact ⟨ret_int HF.out.symm, hb.al _⟩
    · have HF := Lib.hid (H.out.trans (findRF_end (by omega)))
      go_wp2
      go_ret
      exact ⟨ret_int HF.out.symm, hb⟩
set_option maxHeartbeats 1000000 in
theorem cFindRuleS {v : Value} {x : List RuleV} {s : ByteArray} {lo hi : Nat} {w : World} (h : Ob (SL RuleC 4) w lo hi v x) :
    Calls Try.prog 42 #[v, .string s] w fun e w' => e = .returned (.int .i64 (findR x s)) ∧ Up w w' := by
  have hlen := h.1.len
  obtain ⟨a, cap, rfl⟩ := h.1.form
  have HV := Lib.hid h
  clear h
  go_enter Try.func42, Try.ntmps42
  go_wp2_with fail
  go_loop [5] (fun i => ∃ (k : Nat), k ≤ x.length ∧ i = .int .i64 k ∧ Hid (findR x s = findRF s k (x.drop k))) (fun i => x.length - (intOf i).toNat)
  case atStart => exact ⟨0, Nat.zero_le _, rfl, rfl⟩
  case round =>
    obtain ⟨k, hk, rfl, H⟩ := hrel
    by_cases hlt : k < x.length
    · obtain ⟨b, off, p, cp, r, cr, rfl, c0, -, -, -, -⟩ := SRu.at HV.out.1 hlt
      have i1 : (0 : Int) ≤ (k : Int) := by omega
      have i2 : (k : Int) < (x.length : Int) := by omega
      cases hq : (x[k].name.toList == s.toList)
      · have HF := Lib.hid (H.out.trans (findRF_f hlt hq))
        go_wp2
        exact ⟨⟨k+1, by omega, by go_num, HF⟩, by simp [intOf]; omega⟩
      · have HF := Lib.hid (H.out.trans (findRF_t hlt hq))
        go_wp2
        go_ret
        exact ⟨ret_int HF.out.symm, Up.rf _⟩
    · have HF := Lib.hid (H.out.trans (findRF_end (by omega)))
      go_wp2
      go_ret
      exact ⟨ret_int HF.out.symm, Up.rf _⟩
end Go.Proofs.Ytojgkodffmdnpaa
