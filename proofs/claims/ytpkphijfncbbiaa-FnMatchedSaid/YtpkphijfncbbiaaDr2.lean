/- What is drawn for the laws on texts: numbers, words, texts to divide, lists of words. -/
import Derived.Deep.AppendLies
import Derived.Test.YtpkphijfncbbiaaDr1
namespace Go.Proofs.Ytpkphijfncbbiaa
open Go.RowKit
attribute [local go_sem ↓] Go.wp_at_zero Go.wp_at_succ
set_option linter.unusedVariables false
theorem cBig {v : Value} {L : List Int} {lo hi : Nat} {w : World} (h : Ob BX w lo hi v L) : Calls Try.prog 12 #[v] w fun e w' => e = .returned (.bool (decide ((4096 : Int) < L.length))) ∧ w = w' := by
  obtain ⟨a, cap, rfl⟩ := h.1.form
  clear h
  go_enter Try.func12, Try.ntmps12
  go_wp2
  go_ret
  exact ⟨rfl, rfl⟩
end Go.Proofs.Ytpkphijfncbbiaa
