/- The copies of lists of texts, of pairs and of facts, the program's and the reference's; wherever the lengths can be counted. -/
import Derived.Test.YtpkphijfncbbiaaApp
namespace Go.Proofs.Ytpkphijfncbbiaa
open Go.RowKit
attribute [local go_sem ↓] Go.wp_at_zero Go.wp_at_succ
set_option linter.unusedVariables false
set_option maxHeartbeats 400000 in
theorem cCopyT {v : Value} {x : List ByteArray} {lo hi : Nat} {w : World} (h : Ob TX w lo hi v x) (hz : x.length ≤ 4194304) :
    Calls Try.prog 82 #[v] w fun e w' => ∃ v', e = .returned v' ∧ Ob (TO 9) w' w.heap.size w'.heap.size v' x ∧ Up w w' := by
  obtain ⟨a, cap, rfl⟩ := h.1.form
  obtain ⟨i0, hi0, hz0, hz1, hz2⟩ := info_parts Try.infoStr
  have HV := Lib.hid h
  clear h
  cases a with
  | none =>
    obtain rfl : x = [] := TX.none_ HV.out.1
    clear HV
    go_enter Try.func82, Try.ntmps82
    go_wp2_with (at_builtin; refine wpList_app_none rfl _ _ 22 rfl w.heap.size 9 i0 1 Try.underlying22 hi0 (.slice none 0 0) 0 [] rfl (World.ownsRow_nil _ _ _ _) cap rfl ?_)
    go_ret
    exact ⟨_, rfl, ⟨TO.nil_ _ _ _ _, Nat.le_refl _⟩, Up.rf w⟩
  | some ad =>
    have hn := Lib.hid (TX.news HV.out.1)
    go_enter Try.func82, Try.ntmps82
    go_wp2_with (at_builtin; refine wpList_append_own _ rfl _ _ 22 rfl w.heap.size 9 i0 _ 1 16 Try.underlying22 hi0 hz0 hz1 hz2 rfl (by decide) (.slice none 0 0) 0 [] rfl (World.ownsRow_nil _ _ _ _) ad x.length cap (x.map Value.string) rfl (by simp) hn.out (one_strs x) (by unfold maxLen; omega) (by omega) (Nat.le_refl _) ?_; intro v' w1 hown hgrow _)
    have HU : Hid (Up w w1) := (Up.rf w).grown hgrow (fun g hg => by simp [Value.ownBlock] at hg)
    have HO : Hid (TO 9 w1 w.heap.size w1.heap.size v' x) := TO.app (L := []) (by simpa [flatP] using hown)
    clear hown hgrow
    go_wp2
    go_ret
    exact ⟨_, rfl, ⟨HO.out, Nat.le_refl _⟩, HU.out⟩
set_option maxHeartbeats 400000 in
theorem cCopyP {v : Value} {x : List (ByteArray × ByteArray)} {lo hi : Nat} {w : World} (h : Ob SP w lo hi v x) (hz : x.length ≤ 4194304) :
    Calls Try.prog 45 #[v] w fun e w' => ∃ v', e = .returned v' ∧ Ob (PO 47) w' w.heap.size w'.heap.size v' x ∧ Up w w' := by
  obtain ⟨a, cap, rfl⟩ := h.1.form
  obtain ⟨i0, hi0, hz0, hz1, hz2⟩ := info_parts Try.infoPair
  have HV := Lib.hid h
  clear h
  cases a with
  | none =>
    obtain rfl : x = [] := SL.none_ HV.out.1
    clear HV
    go_enter Try.func45, Try.ntmps45
    go_wp2_with (at_builtin; refine wpList_app_none rfl _ _ 32 rfl w.heap.size 47 i0 2 Try.underlying32 hi0 (.slice none 0 0) 0 [] rfl (World.ownsRow_nil _ _ _ _) cap rfl ?_)
    go_ret
    exact ⟨_, rfl, ⟨PO.nil_ _ _ _ _, Nat.le_refl _⟩, Up.rf w⟩
  | some ad =>
    have hn := Lib.hid (SP.news HV.out.1)
    go_enter Try.func45, Try.ntmps45
    go_wp2_with (at_builtin; refine wpList_append_own _ rfl _ _ 32 rfl w.heap.size 47 i0 _ 2 32 Try.underlying32 hi0 hz0 hz1 hz2 rfl (by decide) (.slice none 0 0) 0 [] rfl (World.ownsRow_nil _ _ _ _) ad x.length cap (flatP x) rfl (flatP_len x) hn.out (one_flatP x) (by unfold maxLen; omega) (by omega) (Nat.le_refl _) ?_; intro v' w1 hown hgrow _)
    have HU : Hid (Up w w1) := (Up.rf w).grown hgrow (fun g hg => by simp [Value.ownBlock] at hg)
    have HO : Hid (PO 47 w1 w.heap.size w1.heap.size v' x) := PO.app (L := []) (by simpa [flatP] using hown)
    clear hown hgrow
    go_wp2
    go_ret
    exact ⟨_, rfl, ⟨HO.out, Nat.le_refl _⟩, HU.out⟩
set_option maxHeartbeats 400000 in
theorem cCopyPS {v : Value} {x : List (ByteArray × ByteArray)} {lo hi : Nat} {w : World} (h : Ob SP w lo hi v x) (hz : x.length ≤ 4194304) :
    Calls Try.prog 65 #[v] w fun e w' => ∃ v', e = .returned v' ∧ Ob (PO 47) w' w.heap.size w'.heap.size v' x ∧ Up w w' := by
  obtain ⟨a, cap, rfl⟩ := h.1.form
  obtain ⟨i0, hi0, hz0, hz1, hz2⟩ := info_parts Try.infoPair
  have HV := Lib.hid h
  clear h
  have HM : Hid ((w.alloc (.cells #[] 47)).ownsRow w.heap.size 47 2 (.slice (some ⟨w.heap.size, 0, none⟩) 0 0) 0 []) := World.ownsRow_made w #[] 0 (Nat.le_refl _) (by unfold maxLen; omega) (by rfl)
  cases a with
  | none =>
    obtain rfl : x = [] := SL.none_ HV.out.1
    clear HV
    go_enter Try.func65, Try.ntmps65
    go_wp2_with (at_builtin; refine wpList_app_none rfl _ _ 32 rfl w.heap.size 47 i0 2 Try.underlying32 hi0 (.slice (some ⟨w.heap.size, 0, none⟩) 0 0) 0 [] rfl HM.out cap rfl ?_)
    go_ret
    exact ⟨_, rfl, ⟨⟨HM.out, fun g hg => (HM.out.lt g hg).2⟩, Nat.le_refl _⟩, Up.al1 _ _⟩
  | some ad =>
    have hn := Lib.hid (SP.news (HV.out.up (Up.al1 w (.cells #[] 47))).1)
    go_enter Try.func65, Try.ntmps65
    go_wp2_with (at_builtin; refine wpList_append_own _ rfl _ _ 32 rfl w.heap.size 47 i0 _ 2 32 Try.underlying32 hi0 hz0 hz1 hz2 rfl (by decide) (.slice (some ⟨w.heap.size, 0, none⟩) 0 0) 0 [] rfl HM.out ad x.length cap (flatP x) rfl (flatP_len x) hn.out (one_flatP x) (by unfold maxLen; omega) (by omega) (Up.al1 w _).size ?_; intro v' w1 hown hgrow _)
    have HU : Hid (Up w w1) := (Up.al1 w _).grown hgrow (fun g hg => by simp [Value.ownBlock] at hg; omega)
    have HO : Hid (PO 47 w1 w.heap.size w1.heap.size v' x) := PO.app (L := []) (by simpa [flatP] using hown)
    clear hown hgrow
    go_wp2
    go_ret
    exact ⟨_, rfl, ⟨HO.out, Nat.le_refl _⟩, HU.out⟩
end Go.Proofs.Ytpkphijfncbbiaa
