/- The laws' own comparison of two lists of pairs, on two that are the same; wherever the lengths can be counted. -/
import Derived.Test.YtpkphijfncbbiaaPair
import Derived.Test.YtpkphijfncbbiaaRg
namespace Go.Proofs.Ytpkphijfncbbiaa
open Go.RowKit
attribute [local go_sem ↓] Go.wp_at_zero Go.wp_at_succ
set_option linter.unusedVariables false
set_option linter.unusedSimpArgs false
set_option maxHeartbeats 1000000 in
theorem cPairsEq {v v' : Value} {x : List (ByteArray × ByteArray)} {lo hi lo' hi' : Nat} {w : World} (h : Ob SP w lo hi v x) (h' : Ob SP w lo' hi' v' x) :
    Calls Try.prog 17 #[v, v'] w fun e w' => e = .returned (.bool true) ∧ Up w w' := by
  have hlen := h.1.len
  obtain ⟨a, cap, rfl⟩ := h.1.form
  obtain ⟨a', cap', rfl⟩ := h'.1.form
  have HV := Lib.hid h
  have HV' := Lib.hid h'
  clear h h'
  go_enter Try.func17, Try.ntmps17
  go_wp2
  go_loopw [5] (fun i wr => ∃ (k : Nat), k ≤ x.length ∧ i = .int .i64 k ∧ Up w wr) (fun i _ => x.length - (intOf i).toNat)
  case atStart => exact ⟨0, Nat.zero_le _, rfl, Up.rf w⟩
  case round =>
    obtain ⟨k, hk, rfl, hb⟩ := hrel
    by_cases hlt : k < x.length
    · obtain ⟨b, off, rfl, c0, c1⟩ := SP.at (HV.out.up hb).1 hlt
      obtain ⟨b', off', rfl, d0, d1⟩ := SP.at (HV'.out.up hb).1 hlt
      have i1 : (0 : Int) ≤ (k : Int) := by omega
      have i2 : (k : Int) < (x.length : Int) := by omega
      go_wp2_with fail
      go_quiet (fail)
      go_wp2
      exact ⟨⟨k+1, by omega, by go_num, hb.tr (below_drewN (Up.rf _) _)⟩, by simp [intOf]; omega⟩
    · go_wp2
      go_ret
      exact ⟨rfl, hb⟩
end Go.Proofs.Ytpkphijfncbbiaa
