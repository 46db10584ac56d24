/- FormatFact and FormatPattern, the program's and the reference's: what is valid is written as a word with its arguments in parentheses; wherever the lengths can be counted. -/
import Derived.Test.YtpjklnngigkkiaaDoorJoin
namespace Go.Proofs.YtpjklnngigkkiaaDoor
open Go.RowKit
attribute [local go_sem ↓] Go.wp_at_zero Go.wp_at_succ
set_option linter.unusedVariables false
theorem AF.tx8 {w : World} {lo hi n c : Nat} {r : ByteArray} {a : Option Addr} {f : FactV} (h : Ob AF w lo hi (.agg #[.string r, .slice a n c]) f) : Ob TX w lo hi (.slice a n c) f.args := by
  obtain ⟨⟨cs, e1, av, e2, ht⟩, hh⟩ := h
  subst e2
  have e3 : Value.slice a n c = av := by have := e1; simp at this; exact this.2
  subst e3
  exact ⟨ht, hh⟩
end Go.Proofs.YtpjklnngigkkiaaDoor
