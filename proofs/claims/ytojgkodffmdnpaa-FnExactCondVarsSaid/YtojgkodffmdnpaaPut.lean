/- A text put into ascending ones, the reference's way; the reference's SortedTexts; wherever the lengths can be counted. -/
import Derived.Test.YtojgkodffmdnpaaApp
import Derived.Test.YtojgkodffmdnpaaPl3
import Derived.Test.YtojgkodffmdnpaaPl4
namespace Go.Proofs.Ytojgkodffmdnpaa
open Go.RowKit
attribute [local go_sem ↓] Go.wp_at_zero Go.wp_at_succ
set_option linter.unusedVariables false
set_option maxHeartbeats 2000000 in
set_option maxRecDepth 100000 in
theorem cl1Put {val : Value} {x : List ByteArray} {s : ByteArray} {lo hi : Nat} {w : World} (h : Ob TX w lo hi val x) (hx : x.length ≤ 4194304) :
    Calls Try.prog 110 #[val, .string s] w fun e w' => ∃ v', e = .returned v' ∧ Ob (TO 9) w' w.heap.size w'.heap.size v' (putT x s) ∧ Up w w' := by
  obtain ⟨a, cap, rfl⟩ := h.1.form
  obtain ⟨i0, hi0, hz0, hz1, hz2⟩ := info_parts Try.infoStr
  have HV := Lib.hid h
  clear h
  go_enter Try.func110, Try.ntmps110
  go_wp2_with fail
  go_loopw [5, 6, 7] (fun o d i wr => ∃ (k : Nat) (dn : Bool), k ≤ x.length ∧ i = .int .i64 k ∧ d = .bool dn ∧ Hid (dn = putD x s k) ∧ Up w wr ∧ Hid (TO 9 wr w.heap.size wr.heap.size o (putK x s k))) (fun _ _ i _ => x.length - (intOf i).toNat)
  case atStart => exact ⟨0, false, Nat.zero_le _, rfl, rfl, (putD_0 x s).symm, Up.al1 _ _, by show TO _ _ _ _ _ _; rw [putK_0]; exact TO.made_ _ _⟩
  case round =>
    obtain ⟨k, dn, hk, rfl, rfl, HDN, hb, HP⟩ := hrel
    by_cases hlt : k < x.length
    · obtain ⟨b, off, rfl, -, -, c0⟩ := (HV.out.up hb).1.at hlt
      have i1 : (0 : Int) ≤ (k : Int) := by omega
      have i2 : (k : Int) < (x.length : Int) := by omega
      have hln := putK_len x s k
      have hln2 : (putK x s k).length ≤ 4194305 := by omega
      clear hln
      have HN := Lib.hid (news1 (Blk.new wr 9 #[.string x[k]]))
      have hba : w.heap.size ≤ (wr.alloc (.cells #[.string x[k]] 9)).heap.size := by have := hb.size; simp; omega
      cases dn
      · cases h1 : Op.bytesLess x[k].toList s.toList
        · have hl : ltS x[k] s = false := by rw [← bless_lt]; exact h1
          cases h2 : (x[k].toList == s.toList)
          · have HE : Hid (putK x s (k + 1) = putK x s k ++ [s] ++ [x[k]]) := by have h := putK_ge hlt HDN.out.symm hl; rw [if_neg (str_eq_f h2)] at h; exact h
            have HD : Hid (true = putD x s (k + 1)) := by show _ = _; rw [putD_succ hlt, hl]; simp
            clear hl
            have HN1 := Lib.hid (news1 (Blk.new wr 9 #[.string s]))
            have hba1 : w.heap.size ≤ (wr.alloc (.cells #[.string s] 9)).heap.size := by have := hb.size; simp; omega
            go_wp2_with (first
              | (at_builtin; refine wpList_append_own _ rfl (.tmp 31) (.tmp 33) 22 rfl w.heap.size 9 i0 _ 1 16 Try.underlying22 hi0 hz0 hz1 hz2 rfl (by decide) _ (putK x s k).length ((putK x s k).map Value.string) rfl (HP.out.1.alloc _) ⟨wr.heap.size, 0, none⟩ 1 1 [.string s] rfl rfl HN1.out (one1 rfl) (by unfold maxLen; omega) (by omega) hba1 ?_; intro v1 w1 hown' hgrow _; have hb1 : Up w w1 := (hb.al _).grown hgrow (fun g hg => (HP.out.1.lt g hg).1); have hP1 : Hid (TO 9 w1 w.heap.size w1.heap.size v1 (putK x s k ++ [s])) := TO.snoc hown'; obtain ⟨b9, off9, e9, -, -, d0⟩ := (HV.out.up hb1).1.at hlt; injection e9 with e9; injection e9 with e9a e9b; subst e9a e9b; have HN2 := Lib.hid (news1 (Blk.new w1 9 #[.string x[k]])); have hl1 : (putK x s k ++ [s]).length ≤ 4194306 := (by rw [List.length_append, List.length_singleton]; omega); have hba2 : w.heap.size ≤ (w1.alloc (.cells #[.string x[k]] 9)).heap.size := Nat.le_trans hb1.size (Up.al1 _ _).size; clear hown' hgrow hba1)
              | (at_builtin; refine wpList_append_own _ rfl (.tmp 35) (.tmp 40) 22 rfl w.heap.size 9 i0 _ 1 16 Try.underlying22 hi0 hz0 hz1 hz2 rfl (by decide) _ (putK x s k ++ [s]).length ((putK x s k ++ [s]).map Value.string) rfl (hP1.out.1.alloc _) ⟨w1.heap.size, 0, none⟩ 1 1 [.string x[k]] rfl rfl HN2.out (one1 rfl) (by unfold maxLen; omega) (by omega) hba2 ?_; intro v2 w2 hown' hgrow _))
            have hP2 : Hid (TO 9 w2 w.heap.size w2.heap.size v2 (putK x s (k + 1))) := by show TO _ _ _ _ _ _; rw [HE.out]; exact TO.snoc hown'
            have hb2 : Up w w2 := (hb1.al _).grown hgrow (fun g hg => (hP1.out.1.lt g hg).1)
            clear hown' hgrow hP1 HN2 HP HN
            go_wp2
            exact ⟨⟨k+1, _, by omega, by go_num, rfl, HD.out, hb2, hP2.out⟩, by simp [intOf]; omega⟩
          · skip
            have HE := Lib.hid (by have h := putK_ge hlt HDN.out.symm hl; rw [if_pos (str_eq_t h2)] at h; exact h)
            have HD : Hid (true = putD x s (k + 1)) := by show _ = _; rw [putD_succ hlt, hl]; simp
            go_wp2_with (at_builtin; refine wpList_append_own _ rfl (.tmp 35) (.tmp 40) 22 rfl w.heap.size 9 i0 _ 1 16 Try.underlying22 hi0 hz0 hz1 hz2 rfl (by decide) _ (putK x s k).length ((putK x s k).map Value.string) rfl (HP.out.1.alloc _) ⟨wr.heap.size, 0, none⟩ 1 1 [.string x[k]] rfl rfl HN.out (one1 rfl) (by unfold maxLen; omega) (by omega) hba ?_; intro v2 w2 hown' hgrow _)
            have hP2 : Hid (TO 9 w2 w.heap.size w2.heap.size v2 (putK x s (k + 1))) := by show TO _ _ _ _ _ _; rw [HE.out]; exact TO.snoc hown'
            have hb2 : Up w w2 := (hb.al _).grown hgrow (fun g hg => (HP.out.1.lt g hg).1)
            clear hown' hgrow HP HN
            go_wp2
            exact ⟨⟨k+1, _, by omega, by go_num, rfl, HD.out, hb2, hP2.out⟩, by simp [intOf]; omega⟩
        · have hl : ltS x[k] s = true := by rw [← bless_lt]; exact h1
          have HE := Lib.hid (putK_lt hlt HDN.out.symm hl)
          have HD : Hid (false = putD x s (k + 1)) := by show _ = _; rw [putD_succ hlt, hl, ← HDN.out]; rfl
          go_wp2_with (at_builtin; refine wpList_append_own _ rfl (.tmp 35) (.tmp 40) 22 rfl w.heap.size 9 i0 _ 1 16 Try.underlying22 hi0 hz0 hz1 hz2 rfl (by decide) _ (putK x s k).length ((putK x s k).map Value.string) rfl (HP.out.1.alloc _) ⟨wr.heap.size, 0, none⟩ 1 1 [.string x[k]] rfl rfl HN.out (one1 rfl) (by unfold maxLen; omega) (by omega) hba ?_; intro v2 w2 hown' hgrow _)
          have hP2 : Hid (TO 9 w2 w.heap.size w2.heap.size v2 (putK x s (k + 1))) := by show TO _ _ _ _ _ _; rw [HE.out]; exact TO.snoc hown'
          have hb2 : Up w w2 := (hb.al _).grown hgrow (fun g hg => (HP.out.1.lt g hg).1)
          clear hown' hgrow HP HN
          go_wp2
          exact ⟨⟨k+1, _, by omega, by go_num, rfl, HD.out, hb2, hP2.out⟩, by simp [intOf]; omega⟩
      · skip
        have HE := Lib.hid (putK_d hlt HDN.out.symm)
        have HD : Hid (true = putD x s (k + 1)) := by show _ = _; rw [putD_succ hlt, ← HDN.out]; rfl
        go_wp2_with (at_builtin; refine wpList_append_own _ rfl (.tmp 35) (.tmp 40) 22 rfl w.heap.size 9 i0 _ 1 16 Try.underlying22 hi0 hz0 hz1 hz2 rfl (by decide) _ (putK x s k).length ((putK x s k).map Value.string) rfl (HP.out.1.alloc _) ⟨wr.heap.size, 0, none⟩ 1 1 [.string x[k]] rfl rfl HN.out (one1 rfl) (by unfold maxLen; omega) (by omega) hba ?_; intro v2 w2 hown' hgrow _)
        have hP2 : Hid (TO 9 w2 w.heap.size w2.heap.size v2 (putK x s (k + 1))) := by show TO _ _ _ _ _ _; rw [HE.out]; exact TO.snoc hown'
        have hb2 : Up w w2 := (hb.al _).grown hgrow (fun g hg => (HP.out.1.lt g hg).1)
        clear hown' hgrow HP HN
        go_wp2
        exact ⟨⟨k+1, _, by omega, by go_num, rfl, HD.out, hb2, hP2.out⟩, by simp [intOf]; omega⟩
    · cases dn
      · have HE : Hid (putK x s k ++ [s] = putT x s) := putK_end_n (by omega) HDN.out.symm
        have hln := putK_len x s k
        have hln2 : (putK x s k).length ≤ 4194305 := by omega
        clear hln
        have HN1 := Lib.hid (news1 (Blk.new wr 9 #[.string s]))
        have hba1 : w.heap.size ≤ (wr.alloc (.cells #[.string s] 9)).heap.size := by have := hb.size; simp; omega
        go_wp2_with (at_builtin; refine wpList_append_own _ rfl (.tmp 44) (.tmp 46) 22 rfl w.heap.size 9 i0 _ 1 16 Try.underlying22 hi0 hz0 hz1 hz2 rfl (by decide) _ (putK x s k).length ((putK x s k).map Value.string) rfl (HP.out.1.alloc _) ⟨wr.heap.size, 0, none⟩ 1 1 [.string s] rfl rfl HN1.out (one1 rfl) (by unfold maxLen; omega) (by omega) hba1 ?_; intro v1 w1 hown' hgrow _)
        have hb1 : Up w w1 := (hb.al _).grown hgrow (fun g hg => (HP.out.1.lt g hg).1)
        have hP1 : Hid (TO 9 w1 w.heap.size w1.heap.size v1 (putT x s)) := by show TO _ _ _ _ _ _; rw [← HE.out]; exact TO.snoc hown'
        clear hown' hgrow HP HN1
        go_wp2
        go_ret
        exact ⟨_, rfl, ⟨hP1.out, Nat.le_refl _⟩, hb1⟩
      · have HE : Hid (putK x s k = putT x s) := putK_end_d (by omega) HDN.out.symm
        have hP0 := HP.out
        rw [HE.out] at hP0
        have hP1 := Lib.hid hP0
        clear hP0
        go_wp2
        go_ret
        exact ⟨_, rfl, ⟨hP1.out, Nat.le_refl _⟩, hb⟩
set_option maxHeartbeats 1000000 in
theorem cSortedS {val : Value} {x : List ByteArray} {lo hi : Nat} {w : World} (h : Ob TX w lo hi val x) (hx : x.length ≤ 4194304) :
    Calls Try.prog 61 #[val] w fun e w' => ∃ v', e = .returned v' ∧ Ob (TO 9) w' w.heap.size w'.heap.size v' (setT x) ∧ Up w w' := by
  obtain ⟨a, cap, rfl⟩ := h.1.form
  have HV := Lib.hid h
  clear h
  go_enter Try.func61, Try.ntmps61
  go_wp2_with fail
  go_loopw [3, 4] (fun o i wr => ∃ (k : Nat), k ≤ x.length ∧ i = .int .i64 k ∧ Up w wr ∧ Hid (TO 9 wr w.heap.size wr.heap.size o (setT (x.take k)))) (fun _ i _ => x.length - (intOf i).toNat)
  case atStart => exact ⟨0, Nat.zero_le _, rfl, Up.al1 _ _, TO.made_ _ _⟩
  case round =>
    obtain ⟨k, hk, rfl, hb, HP⟩ := hrel
    by_cases hlt : k < x.length
    · obtain ⟨b, off, rfl, -, -, c0⟩ := (HV.out.up hb).1.at hlt
      have i1 : (0 : Int) ≤ (k : Int) := by omega
      have i2 : (k : Int) < (x.length : Int) := by omega
      have HE := Lib.hid (setT_take_succ x k hlt)
      have hl : (setT (x.take k)).length ≤ 4194304 := by have := setT_len (x.take k); simp at this; omega
      have HO := Lib.hid (show Ob TX wr w.heap.size wr.heap.size _ (setT (x.take k)) from ⟨HP.out.tx, Nat.le_refl _⟩)
      have hbs := hb.size
      clear HP
      go_wp2_with fail
      clear c0
      refine (cl1Put HO.out hl).mono ?_
      rintro e w1 ⟨v1, rfl, ho, b1⟩
      have hP1 : Hid (TO 9 w1 w.heap.size w1.heap.size v1 (setT (x.take (k + 1)))) := by show TO _ _ _ _ _ _; rw [HE.out]; exact ho.1.mono hbs (Nat.le_refl _)
      have hb1 := hb.tr b1
      clear ho b1 hb HO
      go_wp2
      exact ⟨⟨k+1, by omega, by go_num, hb1, hP1.out⟩, by simp [intOf]; omega⟩
    · go_wp2
      go_ret
      have e : setT (x.take k) = setT x := by rw [List.take_of_length_le (by omega)]
      exact ⟨_, rfl, ⟨by rw [← e]; exact HP.out, Nat.le_refl _⟩, hb⟩
end Go.Proofs.Ytojgkodffmdnpaa
