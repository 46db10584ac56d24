/- A term is renamed by pairs, the program's and the reference's. -/
import Derived.Deep.AppendLies
import Derived.Test.YtojgkodffmdnpaaMatch
import Derived.Test.YtojgkodffmdnpaaCond
namespace Go.Proofs.Ytojgkodffmdnpaa
open Go.RowKit
attribute [local go_sem ↓] Go.wp_at_zero Go.wp_at_succ
set_option linter.unusedVariables false
theorem ren_some {b : Prs} {t s : ByteArray} (hf : findP b t = some s) : Ending.returned (.string s) = .returned (.string (renT b t)) := by unfold renT; rw [hf]; rfl
theorem ren_none {b : Prs} {t : ByteArray} (hf : findP b t = none) : Ending.returned (.string t) = .returned (.string (renT b t)) := by unfold renT; rw [hf]; rfl
set_option maxHeartbeats 1000000 in
theorem cRen {v : Value} {x : Prs} {t : ByteArray} {lo hi : Nat} {w : World} (h : Ob SP w lo hi v x) :
    Calls Try.prog 80 #[.string t, v] w fun e w' => e = .returned (.string (renT x t)) ∧ Up w w' := by
  have hlen := h.1.len
  obtain ⟨a, cap, rfl⟩ := h.1.form
  have HV := Lib.hid h
  clear h
  go_enter Try.func80, Try.ntmps80
  go_wp2_with fail
  go_loopw [9] (fun i wr => ∃ (k : Nat), k ≤ x.length ∧ i = .int .i64 k ∧ Hid (noneTo x t k) ∧ Up w wr) (fun i _ => x.length - (intOf i).toNat)
  case atStart => exact ⟨0, Nat.zero_le _, rfl, rfl, Up.rf w⟩
  case round =>
    obtain ⟨k, hk, rfl, H, hb⟩ := hrel
    by_cases hlt : k < x.length
    · obtain ⟨b, off, rfl, c0, c1⟩ := SP.at (HV.out.up hb).1 hlt
      have i1 : (0 : Int) ≤ (k : Int) := by omega
      have i2 : (k : Int) < (x.length : Int) := by omega
      cases hq : (x[k].1.toList == t.toList)
      · have HF := Lib.hid (noneTo_succ H.out hlt hq)
        go_wp2
        exact ⟨⟨k+1, by omega, by go_num, HF, hb.al _⟩, by simp [intOf]; omega⟩
      · have HF := Lib.hid (ren_some (noneTo_some H.out hlt hq))
        go_wp2
        go_ret
        exact ⟨HF.out, hb.al _⟩
    · have HF := Lib.hid (ren_none (noneTo_all H.out (by omega)))
      go_wp2
      go_ret
      exact ⟨HF.out, hb⟩
set_option maxHeartbeats 1000000 in
theorem cRenS {v : Value} {x : Prs} {t : ByteArray} {lo hi : Nat} {w : World} (h : Ob SP w lo hi v x) :
    Calls Try.prog 78 #[.string t, v] w fun e w' => e = .returned (.string (renT x t)) ∧ w' = w := by
  have hlen := h.1.len
  obtain ⟨a, cap, rfl⟩ := h.1.form
  have HV := Lib.hid h
  clear h
  go_enter Try.func78, Try.ntmps78
  go_wp2_with fail
  go_loop [5] (fun i => ∃ (k : Nat), k ≤ x.length ∧ i = .int .i64 k ∧ Hid (noneTo x t k)) (fun i => x.length - (intOf i).toNat)
  case atStart => exact ⟨0, Nat.zero_le _, rfl, rfl⟩
  case round =>
    obtain ⟨k, hk, rfl, H⟩ := hrel
    by_cases hlt : k < x.length
    · obtain ⟨b, off, rfl, c0, c1⟩ := SP.at HV.out.1 hlt
      have i1 : (0 : Int) ≤ (k : Int) := by omega
      have i2 : (k : Int) < (x.length : Int) := by omega
      cases hq : (x[k].1.toList == t.toList)
      · have HF := Lib.hid (noneTo_succ H.out hlt hq)
        go_wp2
        exact ⟨⟨k+1, by omega, by go_num, HF⟩, by simp [intOf]; omega⟩
      · have HF := Lib.hid (ren_some (noneTo_some H.out hlt hq))
        go_wp2
        go_ret
        exact ⟨HF.out, rfl⟩
    · have HF := Lib.hid (ren_none (noneTo_all H.out (by omega)))
      go_wp2
      go_ret
      exact ⟨HF.out, rfl⟩
end Go.Proofs.Ytojgkodffmdnpaa
