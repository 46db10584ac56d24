/- The walks of the laws on constants and on IsAtom, IsName, IsVar and IsTerm: for every input the call returns true and nothing that was there has turned. -/
import Derived.Test.YtbaenmecijipkaaAtom
import Derived.Test.YtbaenmecijipkaaRep
namespace Go.Proofs.Ytbaenmecijipkaa
open Go.RowKit
theorem okS.max {s : ByteArray} (h : okS s) : s.size ≤ maxLen := by unfold okS at h; unfold maxLen; omega
theorem walk_FnExactConstants (w : World) : Calls Try.prog 3 #[] w fun e w' => e = .returned (.bool true) ∧ Below w.heap.size w w' := by
  go_enter Try.func3, Try.ntmps3
  go_wp2
  go_ret
  exact ⟨rfl, Below.refl _ _⟩
theorem walk_FnExactIsAtom (w : World) (s : ByteArray) (hs : okS s) : Calls Try.prog 4 #[.string s] w fun e w' => e = .returned (.bool true) ∧ Below w.heap.size w w' := by
  have hm := hs.max
  clear hs
  go_enter Try.func4, Try.ntmps4
  go_wp2_with (first | (go_at_call 15; refine (atom_any _ _ hm).mono ?_; rintro e w' ⟨rfl, rfl⟩) | (go_at_call 14; refine (atomS_any _ _ hm).mono ?_; rintro e w' ⟨rfl, rfl⟩))
  all_goals (go_ret; exact ⟨rfl, Below.refl _ _⟩)
theorem walk_FnExactIsName (w : World) (s : ByteArray) (hs : okS s) : Calls Try.prog 5 #[.string s] w fun e w' => e = .returned (.bool true) ∧ Below w.heap.size w w' := by
  have hm := hs.max
  clear hs
  go_enter Try.func5, Try.ntmps5
  go_wp2_with (first | (go_at_call 17; refine (name_any _ _ hm).mono ?_; rintro e w' ⟨rfl, rfl⟩) | (go_at_call 16; refine (nameS_any _ _ hm).mono ?_; rintro e w' ⟨rfl, rfl⟩))
  all_goals (go_ret; exact ⟨rfl, Below.refl _ _⟩)
theorem walk_FnExactIsVar (w : World) (s : ByteArray) (hs : okS s) : Calls Try.prog 6 #[.string s] w fun e w' => e = .returned (.bool true) ∧ Below w.heap.size w w' := by
  have hm := hs.max
  clear hs
  go_enter Try.func6, Try.ntmps6
  go_wp2_with (first | (go_at_call 19; refine (var_any _ _ hm).mono ?_; rintro e w' ⟨rfl, rfl⟩) | (go_at_call 18; refine (varS_any _ _ hm).mono ?_; rintro e w' ⟨rfl, rfl⟩))
  all_goals (go_ret; exact ⟨rfl, Below.refl _ _⟩)
theorem walk_FnExactIsTerm (w : World) (s : ByteArray) (hs : okS s) : Calls Try.prog 7 #[.string s] w fun e w' => e = .returned (.bool true) ∧ Below w.heap.size w w' := by
  have hm := hs.max
  clear hs
  go_enter Try.func7, Try.ntmps7
  go_wp2_with (first | (go_at_call 21; refine (term_any _ _ hm).mono ?_; rintro e w' ⟨rfl, rfl⟩) | (go_at_call 20; refine (termS_any _ _ hm).mono ?_; rintro e w' ⟨rfl, rfl⟩))
  all_goals (go_ret; exact ⟨rfl, Below.refl _ _⟩)
end Go.Proofs.Ytbaenmecijipkaa
