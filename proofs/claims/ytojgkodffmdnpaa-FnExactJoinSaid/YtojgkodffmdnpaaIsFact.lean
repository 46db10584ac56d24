/- The contracts of IsFact and IsPattern, the program's and the reference's: each pair returns the same plain function of the fact or pattern; wherever the lengths can be counted. -/
import Derived.Test.YtojgkodffmdnpaaC1
import Derived.Test.YtojgkodffmdnpaaAtom
namespace Go.Proofs.Ytojgkodffmdnpaa
open Go.RowKit
attribute [local go_sem ↓] Go.wp_at_zero Go.wp_at_succ
def isFactB (f : FactV) : Bool := (isNameB f.rel && decide (f.args.length ≤ 3)) && f.args.all isAtomB
def isPatB (f : FactV) : Bool := (isNameB f.rel && decide (f.args.length ≤ 3)) && f.args.all isTermB
theorem fsz_rel {f : FactV} (h : fsz f ≤ 1048576) : f.rel.size ≤ maxLen := by unfold fsz at h; unfold maxLen; omega
theorem fsz_arg {f : FactV} (h : fsz f ≤ 1048576) (k : Nat) (hk : k < f.args.length) : f.args[k].size ≤ maxLen := by
  have := tsum_mem (List.getElem_mem hk); unfold fsz tsz at h; unfold maxLen; omega
theorem all_take_t {α : Type} {L : List α} {p : α → Bool} {k : Nat} (hk : k < L.length) (h : (L.take k).all p = true) (h' : p L[k] = true) : (L.take (k+1)).all p = true := by
  rw [List.take_succ_eq_append_getElem hk, List.all_append, h]; simp [h']
theorem all_at_f {α : Type} {L : List α} {p : α → Bool} {k : Nat} (hk : k < L.length) (h' : p L[k] = false) : L.all p = false := by
  rw [List.all_eq_false]; exact ⟨L[k], List.getElem_mem hk, by simp [h']⟩
theorem all_take_all {α : Type} {L : List α} {p : α → Bool} {k : Nat} (hk : L.length ≤ k) (h : (L.take k).all p = true) : L.all p = true := by rwa [List.take_of_length_le hk] at h
set_option maxHeartbeats 400000 in
theorem cIsFact {v : Value} {x : FactV} {lo hi : Nat} {w : World} (h : Ob AF w lo hi v x) (hz : fsz x ≤ 1048576) :
    Calls Try.prog 86 #[v] w fun e w' => e = .returned (.bool (isFactB x)) ∧ Up w w' := by
  have hr := fsz_rel hz
  have hargs := fsz_arg hz
  have hlen : x.args.length ≤ 1048576 := by unfold fsz tsz at hz; omega
  clear hz
  obtain ⟨⟨_, rfl, av, rfl, ht⟩, hhi⟩ := h
  have HB : Hid (Up w (w.alloc (.cells #[.string x.rel, av] 79))) := Up.al1 _ _
  have HV := Lib.hid (Ob.up (R := TX) ⟨ht, hhi⟩ HB.out)
  obtain ⟨a, cap, rfl⟩ := ht.form
  clear ht hhi
  go_enter Try.func86, Try.ntmps86
  cases h1 : isNameB x.rel
  · have HF : Hid (isFactB x = false) := by unfold isFactB; rw [h1]; rfl
    go_wp2_with (go_at_call 119; refine (name_any _ _ hr).mono ?_; rintro e w' ⟨rfl, rfl⟩)
    go_ret
    exact ⟨ret_bool HF.out.symm, HB.out⟩
  · by_cases h2 : x.args.length ≤ 3
    · go_wp2_with (go_at_call 119; refine (name_any _ _ hr).mono ?_; rintro e w' ⟨rfl, rfl⟩)
      have H1 := Lib.hid h1
      have H2 := Lib.hid h2
      clear h1
      go_loop [18] (fun i => ∃ (k : Nat), k ≤ x.args.length ∧ i = .int .i64 k ∧ Hid ((x.args.take k).all isAtomB = true)) (fun i => x.args.length - (intOf i).toNat)
      case atStart => exact ⟨0, Nat.zero_le _, rfl, by simp [Hid]⟩
      case round =>
        obtain ⟨k, hk, rfl, H⟩ := hrel
        by_cases hlt : k < x.args.length
        · obtain ⟨b, off, rfl, -, -, c0⟩ := TX.at HV.out.1 hlt
          have i1 : (0 : Int) ≤ (k : Int) := by omega
          have hs := hargs k hlt
          cases hq : isAtomB x.args[k]
          · have HF : Hid (isFactB x = false) := by unfold isFactB; rw [all_at_f hlt hq]; simp [Hid]
            go_wp2_with (go_at_call 93; refine (atom_any _ _ hs).mono ?_; rintro e w' ⟨rfl, rfl⟩)
            go_ret
            exact ⟨ret_bool HF.out.symm, HB.out⟩
          · have HF := Lib.hid (all_take_t hlt H.out hq)
            go_wp2_with (go_at_call 93; refine (atom_any _ _ hs).mono ?_; rintro e w' ⟨rfl, rfl⟩)
            exact ⟨⟨k+1, by omega, by go_num, HF⟩, by simp [intOf]; omega⟩
        · have HF : Hid (isFactB x = true) := by unfold isFactB; rw [H1.out, all_take_all (by omega) H.out]; simp [Hid, H2.out]
          go_wp2
          go_ret
          exact ⟨ret_bool HF.out.symm, HB.out⟩
    · have HF : Hid (isFactB x = false) := by unfold isFactB; simp [h2, Hid]
      go_wp2_with (go_at_call 119; refine (name_any _ _ hr).mono ?_; rintro e w' ⟨rfl, rfl⟩)
      go_ret
      exact ⟨ret_bool HF.out.symm, HB.out⟩
set_option maxHeartbeats 400000 in
theorem cIsPattern {v : Value} {x : FactV} {lo hi : Nat} {w : World} (h : Ob AF w lo hi v x) (hz : fsz x ≤ 1048576) :
    Calls Try.prog 103 #[v] w fun e w' => e = .returned (.bool (isPatB x)) ∧ Up w w' := by
  have hr := fsz_rel hz
  have hargs := fsz_arg hz
  have hlen : x.args.length ≤ 1048576 := by unfold fsz tsz at hz; omega
  clear hz
  obtain ⟨⟨_, rfl, av, rfl, ht⟩, hhi⟩ := h
  have HB : Hid (Up w (w.alloc (.cells #[.string x.rel, av] 30))) := Up.al1 _ _
  have HV := Lib.hid (Ob.up (R := TX) ⟨ht, hhi⟩ HB.out)
  obtain ⟨a, cap, rfl⟩ := ht.form
  clear ht hhi
  go_enter Try.func103, Try.ntmps103
  cases h1 : isNameB x.rel
  · have HF : Hid (isPatB x = false) := by unfold isPatB; rw [h1]; rfl
    go_wp2_with (go_at_call 119; refine (name_any _ _ hr).mono ?_; rintro e w' ⟨rfl, rfl⟩)
    go_ret
    exact ⟨ret_bool HF.out.symm, HB.out⟩
  · by_cases h2 : x.args.length ≤ 3
    · go_wp2_with (go_at_call 119; refine (name_any _ _ hr).mono ?_; rintro e w' ⟨rfl, rfl⟩)
      have H1 := Lib.hid h1
      have H2 := Lib.hid h2
      clear h1
      go_loop [18] (fun i => ∃ (k : Nat), k ≤ x.args.length ∧ i = .int .i64 k ∧ Hid ((x.args.take k).all isTermB = true)) (fun i => x.args.length - (intOf i).toNat)
      case atStart => exact ⟨0, Nat.zero_le _, rfl, by simp [Hid]⟩
      case round =>
        obtain ⟨k, hk, rfl, H⟩ := hrel
        by_cases hlt : k < x.args.length
        · obtain ⟨b, off, rfl, -, -, c0⟩ := TX.at HV.out.1 hlt
          have i1 : (0 : Int) ≤ (k : Int) := by omega
          have hs := hargs k hlt
          cases hq : isTermB x.args[k]
          · have HF : Hid (isPatB x = false) := by unfold isPatB; rw [all_at_f hlt hq]; simp [Hid]
            go_wp2_with (go_at_call 123; refine (term_any _ _ hs).mono ?_; rintro e w' ⟨rfl, rfl⟩)
            go_ret
            exact ⟨ret_bool HF.out.symm, HB.out⟩
          · have HF := Lib.hid (all_take_t hlt H.out hq)
            go_wp2_with (go_at_call 123; refine (term_any _ _ hs).mono ?_; rintro e w' ⟨rfl, rfl⟩)
            exact ⟨⟨k+1, by omega, by go_num, HF⟩, by simp [intOf]; omega⟩
        · have HF : Hid (isPatB x = true) := by unfold isPatB; rw [H1.out, all_take_all (by omega) H.out]; simp [Hid, H2.out]
          go_wp2
          go_ret
          exact ⟨ret_bool HF.out.symm, HB.out⟩
    · have HF : Hid (isPatB x = false) := by unfold isPatB; simp [h2, Hid]
      go_wp2_with (go_at_call 119; refine (name_any _ _ hr).mono ?_; rintro e w' ⟨rfl, rfl⟩)
      go_ret
      exact ⟨ret_bool HF.out.symm, HB.out⟩
set_option maxHeartbeats 400000 in
theorem cIsFactS {v : Value} {x : FactV} {lo hi : Nat} {w : World} (h : Ob AF w lo hi v x) (hz : fsz x ≤ 1048576) :
    Calls Try.prog 84 #[v] w fun e w' => e = .returned (.bool (isFactB x)) ∧ Up w w' := by
  have hr := fsz_rel hz
  have hargs := fsz_arg hz
  have hlen : x.args.length ≤ 1048576 := by unfold fsz tsz at hz; omega
  clear hz
  obtain ⟨⟨_, rfl, av, rfl, ht⟩, hhi⟩ := h
  have HB : Hid (Up w (w.alloc (.cells #[.string x.rel, av] 79))) := Up.al1 _ _
  have HV := Lib.hid (Ob.up (R := TX) ⟨ht, hhi⟩ HB.out)
  obtain ⟨a, cap, rfl⟩ := ht.form
  clear ht hhi
  go_enter Try.func84, Try.ntmps84
  go_wp2_with fail
  go_loop [3] (fun i => ∃ (k : Nat), k ≤ x.args.length ∧ i = .int .i64 k ∧ Hid ((x.args.take k).all isAtomB = true)) (fun i => x.args.length - (intOf i).toNat)
  case atStart => exact ⟨0, Nat.zero_le _, rfl, by simp [Hid]⟩
  case round =>
    obtain ⟨k, hk, rfl, H⟩ := hrel
    by_cases hlt : k < x.args.length
    · obtain ⟨b, off, rfl, -, -, c0⟩ := TX.at HV.out.1 hlt
      have i1 : (0 : Int) ≤ (k : Int) := by omega
      have hs := hargs k hlt
      cases hq : isAtomB x.args[k]
      · have HF : Hid (isFactB x = false) := by unfold isFactB; rw [all_at_f hlt hq]; simp [Hid]
        go_wp2_with (go_at_call 90; refine (atomS_any _ _ hs).mono ?_; rintro e w' ⟨rfl, rfl⟩)
        go_ret
        exact ⟨ret_bool HF.out.symm, HB.out⟩
      · have HF := Lib.hid (all_take_t hlt H.out hq)
        go_wp2_with (go_at_call 90; refine (atomS_any _ _ hs).mono ?_; rintro e w' ⟨rfl, rfl⟩)
        exact ⟨⟨k+1, by omega, by go_num, HF⟩, by simp [intOf]; omega⟩
    · have HA := Lib.hid (all_take_all (by omega) H.out)
      cases h1 : isNameB x.rel
      · have HF : Hid (isFactB x = false) := by unfold isFactB; rw [h1]; rfl
        go_wp2_with (go_at_call 118; refine (nameS_any _ _ hr).mono ?_; rintro e w' ⟨rfl, rfl⟩)
        go_ret
        exact ⟨ret_bool HF.out.symm, HB.out⟩
      · have HF : Hid (isFactB x = decide ((x.args.length : Int) ≤ 3)) := by unfold isFactB; rw [h1, HA.out]; simp [Hid]; omega
        go_wp2_with (go_at_call 118; refine (nameS_any _ _ hr).mono ?_; rintro e w' ⟨rfl, rfl⟩)
        go_ret
        exact ⟨ret_bool HF.out.symm, HB.out⟩
set_option maxHeartbeats 400000 in
theorem cIsPatternS {v : Value} {x : FactV} {lo hi : Nat} {w : World} (h : Ob AF w lo hi v x) (hz : fsz x ≤ 1048576) :
    Calls Try.prog 100 #[v] w fun e w' => e = .returned (.bool (isPatB x)) ∧ Up w w' := by
  have hr := fsz_rel hz
  have hargs := fsz_arg hz
  have hlen : x.args.length ≤ 1048576 := by unfold fsz tsz at hz; omega
  clear hz
  obtain ⟨⟨_, rfl, av, rfl, ht⟩, hhi⟩ := h
  have HB : Hid (Up w (w.alloc (.cells #[.string x.rel, av] 30))) := Up.al1 _ _
  have HV := Lib.hid (Ob.up (R := TX) ⟨ht, hhi⟩ HB.out)
  obtain ⟨a, cap, rfl⟩ := ht.form
  clear ht hhi
  go_enter Try.func100, Try.ntmps100
  go_wp2_with fail
  go_loop [3] (fun i => ∃ (k : Nat), k ≤ x.args.length ∧ i = .int .i64 k ∧ Hid ((x.args.take k).all isTermB = true)) (fun i => x.args.length - (intOf i).toNat)
  case atStart => exact ⟨0, Nat.zero_le _, rfl, by simp [Hid]⟩
  case round =>
    obtain ⟨k, hk, rfl, H⟩ := hrel
    by_cases hlt : k < x.args.length
    · obtain ⟨b, off, rfl, -, -, c0⟩ := TX.at HV.out.1 hlt
      have i1 : (0 : Int) ≤ (k : Int) := by omega
      have hs := hargs k hlt
      cases hq : isTermB x.args[k]
      · have HF : Hid (isPatB x = false) := by unfold isPatB; rw [all_at_f hlt hq]; simp [Hid]
        go_wp2_with (go_at_call 122; refine (termS_any _ _ hs).mono ?_; rintro e w' ⟨rfl, rfl⟩)
        go_ret
        exact ⟨ret_bool HF.out.symm, HB.out⟩
      · have HF := Lib.hid (all_take_t hlt H.out hq)
        go_wp2_with (go_at_call 122; refine (termS_any _ _ hs).mono ?_; rintro e w' ⟨rfl, rfl⟩)
        exact ⟨⟨k+1, by omega, by go_num, HF⟩, by simp [intOf]; omega⟩
    · have HA := Lib.hid (all_take_all (by omega) H.out)
      cases h1 : isNameB x.rel
      · have HF : Hid (isPatB x = false) := by unfold isPatB; rw [h1]; rfl
        go_wp2_with (go_at_call 118; refine (nameS_any _ _ hr).mono ?_; rintro e w' ⟨rfl, rfl⟩)
        go_ret
        exact ⟨ret_bool HF.out.symm, HB.out⟩
      · have HF : Hid (isPatB x = decide ((x.args.length : Int) ≤ 3)) := by unfold isPatB; rw [h1, HA.out]; simp [Hid]; omega
        go_wp2_with (go_at_call 118; refine (nameS_any _ _ hr).mono ?_; rintro e w' ⟨rfl, rfl⟩)
        go_ret
        exact ⟨ret_bool HF.out.symm, HB.out⟩
end Go.Proofs.Ytojgkodffmdnpaa
