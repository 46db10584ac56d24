/- The contracts of IsAtom, IsName, IsVar and IsTerm, the program's and the reference's: each pair returns the same plain function of the text, at every text that fits a machine. -/
import Derived.Test.YtojgkodffmdnpaaProg
import Derived.Test.YtojgkodffmdnpaaBase
namespace Go.Proofs.Ytojgkodffmdnpaa
open Go.RowKit
theorem in_any (x a b : Int) (w : World) :
    Calls Try.prog 120 #[.int .i64 x, .int .i64 a, .int .i64 b] w fun e w' => e = .returned (.bool (inB x a b)) ∧ w = w' := by
  go_enter Try.func120, Try.ntmps120
  go_wp2
  all_goals (go_ret; exact ⟨ret_bool (by unfold inB; grind), rfl⟩)
set_option maxHeartbeats 400000 in
theorem atom_any (s : ByteArray) (w : World) (hs : s.size ≤ maxLen) :
    Calls Try.prog 93 #[.string s] w fun e w' => e = .returned (.bool (isAtomB s)) ∧ w = w' := by
  unfold maxLen at hs
  go_enter Try.func93, Try.ntmps93
  by_cases h : 1 ≤ s.size ∧ s.size ≤ 8
  · obtain ⟨h1, h2⟩ := h
    go_wp2
    go_loop [3] (fun i => ∃ k : Nat, k ≤ s.size ∧ i = .int .i64 k ∧ Hid ((s.data.toList.take k).all atomCh = true)) (fun i => s.size - (intOf i).toNat)
    case atStart => exact ⟨0, Nat.zero_le _, rfl, by simp [Hid]⟩
    case round =>
      obtain ⟨k, hk, rfl, H⟩ := hrel
      by_cases hlt : k < s.size
      · by_cases hc : atomCh s[k] = true
        · have H2 := Lib.hid (take_all_true s k hlt atomCh H.out hc)
          have hc2 := atomCh_t _ hc
          clear hc
          go_wp2
          all_goals exact ⟨⟨k+1, by omega, by go_num, H2.out⟩, by simp [intOf]; omega⟩
        · have H2 := Lib.hid (take_all_false s k hlt atomCh (by simpa using hc))
          have hc2 := atomCh_f _ hc
          clear hc
          obtain ⟨hc2, hc3⟩ := hc2
          go_wp2
          all_goals (go_ret; exact ⟨ret_bool (by simp [isAtomB, H2.out]), rfl⟩)
      · have H2 := Lib.hid (take_all_end s k (by omega) atomCh H.out)
        go_wp2
        all_goals (go_ret; exact ⟨ret_bool (by simp [isAtomB, H2.out, inB]; omega), rfl⟩)
  · have hf : isAtomB s = false := by simp [isAtomB, inB]; omega
    have Hf := Lib.hid hf
    clear hf
    by_cases h1 : s.size < 1
    · clear h
      go_wp2
      all_goals (go_ret; exact ⟨ret_bool Hf.out.symm, rfl⟩)
    · have h2 : 8 < s.size := by omega
      clear h
      go_wp2
      all_goals (go_ret; exact ⟨ret_bool Hf.out.symm, rfl⟩)
set_option maxHeartbeats 400000 in
theorem atomS_any (s : ByteArray) (w : World) (hs : s.size ≤ maxLen) :
    Calls Try.prog 90 #[.string s] w fun e w' => e = .returned (.bool (isAtomB s)) ∧ w = w' := by
  unfold maxLen at hs
  go_enter Try.func90, Try.ntmps90
  go_wp2_with fail
  go_loop [3] (fun i => ∃ k : Nat, k ≤ s.size ∧ i = .int .i64 k ∧ Hid ((s.data.toList.take k).all atomCh = true)) (fun i => s.size - (intOf i).toNat)
  case atStart => exact ⟨0, Nat.zero_le _, rfl, by simp [Hid]⟩
  case round =>
    obtain ⟨k, hk, rfl, H⟩ := hrel
    by_cases hlt : k < s.size
    · have hb := byte_lt s[k]
      by_cases hc : atomCh s[k] = true
      · have H2 := Lib.hid (take_all_true s k hlt atomCh H.out hc)
        unfold atomCh at hc
        cases h1 : inB s[k].toNat 97 122 <;> cases h2 : inB s[k].toNat 48 57 <;> simp only [h1, h2, Bool.or_false, Bool.false_eq_true] at hc <;> clear hc
        all_goals
          go_wp2_with (go_at_call 120; refine (in_any _ _ _ _).mono ?_; rintro e w' ⟨rfl, rfl⟩)
          exact ⟨⟨k+1, by omega, by go_num, H2.out⟩, by simp [intOf]; omega⟩
      · have H2 := Lib.hid (take_all_false s k hlt atomCh (by simpa using hc))
        unfold atomCh at hc
        rw [Bool.or_eq_true, not_or] at hc
        obtain ⟨h1, h2⟩ := hc
        rw [Bool.not_eq_true] at h1 h2
        go_wp2_with (go_at_call 120; refine (in_any _ _ _ _).mono ?_; rintro e w' ⟨rfl, rfl⟩)
        go_ret; exact ⟨ret_bool (by simp [isAtomB, H2.out]), rfl⟩
    · have H2 := Lib.hid (take_all_end s k (by omega) atomCh H.out)
      go_wp2_with (go_at_call 120; refine (in_any _ _ _ _).mono ?_; rintro e w' ⟨rfl, rfl⟩)
      go_ret; exact ⟨ret_bool (by simp [isAtomB, H2.out]), rfl⟩
set_option maxHeartbeats 400000 in
theorem name_any (s : ByteArray) (w : World) (hs : s.size ≤ maxLen) :
    Calls Try.prog 119 #[.string s] w fun e w' => e = .returned (.bool (isNameB s)) ∧ w = w' := by
  have hs' := hs
  unfold maxLen at hs
  go_enter Try.func119, Try.ntmps119
  cases h : isAtomB s
  · have HN := Lib.hid (nameB_no s h)
    go_wp2_with (go_at_call 93; refine (atom_any _ _ hs').mono ?_; rintro e w' ⟨rfl, rfl⟩)
    go_ret
    exact ⟨ret_bool HN.out.symm, rfl⟩
  · have h0 := (isAtomB_size h).1
    have i1 : (0 : Int) < (s.size : Int) := by omega
    have HN := Lib.hid (nameB_of s h0 h)
    go_wp2_with (go_at_call 93; refine (atom_any _ _ hs').mono ?_; rintro e w' ⟨rfl, rfl⟩)
    go_ret
    exact ⟨ret_bool HN.out.symm, rfl⟩
set_option maxHeartbeats 400000 in
theorem nameS_any (s : ByteArray) (w : World) (hs : s.size ≤ maxLen) :
    Calls Try.prog 118 #[.string s] w fun e w' => e = .returned (.bool (isNameB s)) ∧ w = w' := by
  have hs' := hs
  unfold maxLen at hs
  go_enter Try.func118, Try.ntmps118
  cases h : isAtomB s
  · have HN := Lib.hid (nameB_no s h)
    go_wp2_with (go_at_call 90; refine (atomS_any _ _ hs').mono ?_; rintro e w' ⟨rfl, rfl⟩)
    go_ret
    exact ⟨ret_bool HN.out.symm, rfl⟩
  · have h0 := (isAtomB_size h).1
    have i1 : (0 : Int) < (s.size : Int) := by omega
    have hb := byte_lt s[0]
    have HN := Lib.hid (nameB_in s h0 h)
    go_wp2_with (first | (go_at_call 90; refine (atomS_any _ _ hs').mono ?_; rintro e w' ⟨rfl, rfl⟩) | (go_at_call 120; refine (in_any _ _ _ _).mono ?_; rintro e w' ⟨rfl, rfl⟩))
    go_ret
    exact ⟨ret_bool HN.out.symm, rfl⟩
set_option maxHeartbeats 400000 in
theorem var_any (s : ByteArray) (w : World) (hs : s.size ≤ maxLen) :
    Calls Try.prog 124 #[.string s] w fun e w' => e = .returned (.bool (isVarB s)) ∧ w = w' := by
  have hs' := hs
  unfold maxLen at hs
  go_enter Try.func124, Try.ntmps124
  by_cases h1 : 1 < s.size
  · have i1 : (1 : Int) < (s.size : Int) := by omega
    obtain ⟨r, hr⟩ := hd_of s (by omega)
    have hx : (s.extract 1 s.size).size ≤ maxLen := by simp [maxLen]; omega
    by_cases h2 : (s[0].toNat : Int) = 63
    · have HN : Hid (isVarB s = isAtomB (s.extract 1 s.size)) := by unfold isVarB; simp [h1, hr, h2, Hid]
      have h3 : ((s[0].toNat : Int) == 63) = true := by simpa using h2
      clear h2 hr
      go_wp2_with (go_at_call 93; refine (atom_any _ _ hx).mono ?_; rintro e w' ⟨rfl, rfl⟩)
      go_ret
      exact ⟨ret_bool HN.out.symm, rfl⟩
    · have HN : Hid (isVarB s = false) := by unfold isVarB; simp [hr, Hid]; omega
      have h3 : ((s[0].toNat : Int) == 63) = false := by simpa using h2
      clear h2 hr
      go_wp2_with fail
      go_ret
      exact ⟨ret_bool HN.out.symm, rfl⟩
  · have HN : Hid (isVarB s = false) := by unfold isVarB; simp [h1, Hid]
    go_wp2_with fail
    go_ret
    exact ⟨ret_bool HN.out.symm, rfl⟩
set_option maxHeartbeats 400000 in
theorem varS_any (s : ByteArray) (w : World) (hs : s.size ≤ maxLen) :
    Calls Try.prog 114 #[.string s] w fun e w' => e = .returned (.bool (isVarB s)) ∧ w = w' := by
  have hs' := hs
  unfold maxLen at hs
  go_enter Try.func114, Try.ntmps114
  by_cases h1 : 1 < s.size
  · have i1 : (1 : Int) < (s.size : Int) := by omega
    obtain ⟨r, hr⟩ := hd_of s (by omega)
    have hx : (s.extract 1 s.size).size ≤ maxLen := by simp [maxLen]; omega
    by_cases h2 : (s[0].toNat : Int) = 63
    · have HN : Hid (isVarB s = isAtomB (s.extract 1 s.size)) := by unfold isVarB; simp [h1, hr, h2, Hid]
      have h3 : ((s[0].toNat : Int) == 63) = true := by simpa using h2
      clear h2 hr
      go_wp2_with (go_at_call 90; refine (atomS_any _ _ hx).mono ?_; rintro e w' ⟨rfl, rfl⟩)
      go_ret
      exact ⟨ret_bool HN.out.symm, rfl⟩
    · have HN : Hid (isVarB s = false) := by unfold isVarB; simp [hr, Hid]; omega
      have h3 : ((s[0].toNat : Int) == 63) = false := by simpa using h2
      clear h2 hr
      go_wp2_with fail
      go_ret
      exact ⟨ret_bool HN.out.symm, rfl⟩
  · have HN : Hid (isVarB s = false) := by unfold isVarB; simp [h1, Hid]
    go_wp2_with fail
    go_ret
    exact ⟨ret_bool HN.out.symm, rfl⟩
set_option maxHeartbeats 400000 in
theorem term_any (s : ByteArray) (w : World) (hs : s.size ≤ maxLen) :
    Calls Try.prog 123 #[.string s] w fun e w' => e = .returned (.bool (isTermB s)) ∧ w = w' := by
  go_enter Try.func123, Try.ntmps123
  cases h : isAtomB s
  · have HN : Hid (isTermB s = isVarB s) := by unfold isTermB; rw [h]; rfl
    go_wp2_with (first | (go_at_call 93; refine (atom_any _ _ hs).mono ?_; rintro e w' ⟨rfl, rfl⟩) | (go_at_call 124; refine (var_any _ _ hs).mono ?_; rintro e w' ⟨rfl, rfl⟩))
    go_ret
    exact ⟨ret_bool HN.out.symm, rfl⟩
  · have HN : Hid (isTermB s = true) := by unfold isTermB; rw [h]; rfl
    go_wp2_with (first | (go_at_call 93; refine (atom_any _ _ hs).mono ?_; rintro e w' ⟨rfl, rfl⟩) | (go_at_call 124; refine (var_any _ _ hs).mono ?_; rintro e w' ⟨rfl, rfl⟩))
    go_ret
    exact ⟨ret_bool HN.out.symm, rfl⟩
set_option maxHeartbeats 400000 in
theorem termS_any (s : ByteArray) (w : World) (hs : s.size ≤ maxLen) :
    Calls Try.prog 122 #[.string s] w fun e w' => e = .returned (.bool (isTermB s)) ∧ w = w' := by
  go_enter Try.func122, Try.ntmps122
  cases h : isAtomB s
  · have HN : Hid (isTermB s = isVarB s) := by unfold isTermB; rw [h]; rfl
    go_wp2_with (first | (go_at_call 90; refine (atomS_any _ _ hs).mono ?_; rintro e w' ⟨rfl, rfl⟩) | (go_at_call 114; refine (varS_any _ _ hs).mono ?_; rintro e w' ⟨rfl, rfl⟩))
    go_ret
    exact ⟨ret_bool HN.out.symm, rfl⟩
  · have HN : Hid (isTermB s = true) := by unfold isTermB; rw [h]; rfl
    go_wp2_with (first | (go_at_call 90; refine (atomS_any _ _ hs).mono ?_; rintro e w' ⟨rfl, rfl⟩) | (go_at_call 114; refine (varS_any _ _ hs).mono ?_; rintro e w' ⟨rfl, rfl⟩))
    go_ret
    exact ⟨ret_bool HN.out.symm, rfl⟩
end Go.Proofs.Ytojgkodffmdnpaa
