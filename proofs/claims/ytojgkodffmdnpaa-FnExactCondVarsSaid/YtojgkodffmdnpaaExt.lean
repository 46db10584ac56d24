/- Extend, the program's and the reference's: one plain function of the binding, the variable and the value; wherever the lengths can be counted. -/
import Derived.Test.YtojgkodffmdnpaaIns
namespace Go.Proofs.Ytojgkodffmdnpaa
open Go.RowKit
attribute [local go_sem ↓] Go.wp_at_zero Go.wp_at_succ
set_option linter.unusedVariables false
theorem extV_bad1 {x : Prs} {v u : ByteArray} (h : isBindB x = false) : extV x v u = none := by unfold extV; rw [h]; rfl
theorem extV_bad2 {x : Prs} {v u : ByteArray} (h : isVarB v = false) : extV x v u = none := by unfold extV; rw [h]; simp
theorem extV_bad3 {x : Prs} {v u : ByteArray} (h : isAtomB u = false) : extV x v u = none := by unfold extV; rw [h]; simp
theorem extV_old {x : Prs} {v u : ByteArray} (h1 : isBindB x = true) (h2 : isVarB v = true) (h3 : isAtomB u = true) (h4 : valOk x v = true) (h5 : ((valS x v).toList == u.toList) = true) : extV x v u = some x := by
  unfold extV; rw [h1, h2, h3, h4, str_eq_t h5]; simp
theorem extV_diff {x : Prs} {v u : ByteArray} (h1 : isBindB x = true) (h2 : isVarB v = true) (h3 : isAtomB u = true) (h4 : valOk x v = true) (h5 : ((valS x v).toList == u.toList) = false) : extV x v u = none := by
  unfold extV; rw [h1, h2, h3, h4]; simp [str_eq_f h5]
theorem extV_full {x : Prs} {v u : ByteArray} (h1 : isBindB x = true) (h2 : isVarB v = true) (h3 : isAtomB u = true) (h4 : valOk x v = false) (h5 : ¬ x.length < 6) : extV x v u = none := by
  unfold extV; rw [h1, h2, h3, h4]; simp [h5]
theorem extV_new {x : Prs} {v u : ByteArray} (h1 : isBindB x = true) (h2 : isVarB v = true) (h3 : isAtomB u = true) (h4 : valOk x v = false) (h5 : x.length < 6) : extV x v u = some (insP x v u) := by
  unfold extV; rw [h1, h2, h3, h4]; simp [h5]
theorem oL_ext_psz (b : Prs) (v u : ByteArray) : psz (oL (extV b v u)) ≤ 126 := by
  cases h : extV b v u with
  | none => simp [oL, psz, psum]
  | some c => have := extV_psz h; simp [oL]; omega
theorem PO.none_ {E : TypeId} {w : World} {lo : Nat} {o : Option Prs} (h : o = none) : Ob (PO E) w lo w.heap.size (.slice none 0 0) (oL o) := by rw [h]; exact ⟨PO.nil_ _ _ _ _, Nat.le_refl _⟩
theorem PO.emp_ {E : TypeId} {w : World} {lo : Nat} {o : Option Prs} (h : o = none) (hl : lo ≤ w.heap.size) : Ob (PO E) (w.alloc (.cells #[] E)) lo (w.alloc (.cells #[] E)).heap.size (.slice (some ⟨w.heap.size, 0, none⟩) 0 0) (oL o) := by
  rw [h]; exact ⟨(PO.made_ E w).mono hl (Nat.le_refl _), Nat.le_refl _⟩
theorem ret_pb {v : Value} {b b' : Bool} (h : b = b') : Ending.returned (.tuple #[v, .bool b]) = .returned (.tuple #[v, .bool b']) := by rw [h]
set_option maxHeartbeats 2000000 in
set_option maxRecDepth 100000 in
theorem cExtend {val : Value} {x : Prs} {v u : ByteArray} {lo hi : Nat} {w : World} (h : Ob SP w lo hi val x) (hz : psz x ≤ 1048576) (hv : v.size ≤ 1048576) (hu : u.size ≤ 1048576) :
    Calls Try.prog 109 #[val, .string v, .string u] w fun e w' => ∃ v', e = .returned (.tuple #[v', .bool (extV x v u).isSome]) ∧ Ob (PO 111) w' w.heap.size w'.heap.size v' (oL (extV x v u)) ∧ Up w w' := by
  have hvm : v.size ≤ maxLen := by unfold maxLen; omega
  have hum : u.size ≤ maxLen := by unfold maxLen; omega
  have hlen := psz_len x
  by_cases h1 : isBindB x = true
  · by_cases h2 : isVarB v = true
    · by_cases h3 : isAtomB u = true
      · cases h4 : valOk x v
        · by_cases h5 : x.length < 6
          · refine (cExtend_new h h1 h2 h3 h4 h5).mono ?_
            rintro e w' ⟨v', rfl, ho, hb⟩
            have he := extV_new (u := u) h1 h2 h3 h4 h5
            exact ⟨v', by rw [he]; rfl, by rw [he]; exact ho, hb⟩
          · obtain ⟨a, cap, rfl⟩ := h.1.form
            have HV := Lib.hid h
            have HE := Lib.hid (extV_full (u := u) h1 h2 h3 h4 h5)
            have hl6 := isBindB_len h1
            have hk : ((x.length : Int) == 6) = true := by simp; omega
            have hk2 : (6 : Int) ≤ (x.length : Int) := by omega
            clear h
            go_enter Try.func109, Try.ntmps109
            go_wp2_with (first
              | (go_at_call 104; refine (cIsBinding HV.out hz).mono ?_; rintro e w1 ⟨rfl, b1⟩; rw [h1])
              | (go_at_call 124; refine (var_any _ _ hvm).mono ?_; rintro e w' ⟨rfl, rfl⟩; rw [h2])
              | (go_at_call 93; refine (atom_any _ _ hum).mono ?_; rintro e w' ⟨rfl, rfl⟩; rw [h3])
              | (go_at_call 105; refine (cValueOf (HV.out.up b1) hv).mono ?_; rintro e w2 ⟨rfl, b2⟩; rw [h4]))
            have HB := Lib.hid (Up.tr b1 b2)
            clear b1 b2
            go_wp2
            go_ret2
            exact ⟨_, ret_pb (by rw [HE.out]; rfl), PO.none_ HE.out, HB.out⟩
        · cases h5 : ((valS x v).toList == u.toList)
          · obtain ⟨a, cap, rfl⟩ := h.1.form
            have HV := Lib.hid h
            have HE := Lib.hid (extV_diff h1 h2 h3 h4 h5)
            clear h
            go_enter Try.func109, Try.ntmps109
            go_wp2_with (first
              | (go_at_call 104; refine (cIsBinding HV.out hz).mono ?_; rintro e w1 ⟨rfl, b1⟩; rw [h1])
              | (go_at_call 124; refine (var_any _ _ hvm).mono ?_; rintro e w' ⟨rfl, rfl⟩; rw [h2])
              | (go_at_call 93; refine (atom_any _ _ hum).mono ?_; rintro e w' ⟨rfl, rfl⟩; rw [h3])
              | (go_at_call 105; refine (cValueOf (HV.out.up b1) hv).mono ?_; rintro e w2 ⟨rfl, b2⟩; rw [h4]))
            have HB := Lib.hid (Up.tr b1 b2)
            clear b1 b2
            go_wp2
            go_ret2
            exact ⟨_, ret_pb (by rw [HE.out]; rfl), PO.none_ HE.out, HB.out⟩
          · obtain ⟨a, cap, rfl⟩ := h.1.form
            have HV := Lib.hid h
            have HE := Lib.hid (extV_old h1 h2 h3 h4 h5)
            clear h
            go_enter Try.func109, Try.ntmps109
            go_wp2_with (first
              | (go_at_call 104; refine (cIsBinding HV.out hz).mono ?_; rintro e w1 ⟨rfl, b1⟩; rw [h1])
              | (go_at_call 124; refine (var_any _ _ hvm).mono ?_; rintro e w' ⟨rfl, rfl⟩; rw [h2])
              | (go_at_call 93; refine (atom_any _ _ hum).mono ?_; rintro e w' ⟨rfl, rfl⟩; rw [h3])
              | (go_at_call 105; refine (cValueOf (HV.out.up b1) hv).mono ?_; rintro e w2 ⟨rfl, b2⟩; rw [h4])
              | (go_at_call 108; refine (cCopyP (HV.out.up (b1.tr b2)) (by omega)).mono ?_; rintro e w3 ⟨v', rfl, ho, b3⟩))
            have HO := Lib.hid ho
            have HB := Lib.hid ((Up.tr b1 b2).tr b3)
            have hs : w.heap.size ≤ w2.heap.size := (Up.tr b1 b2).size
            clear ho b1 b2 b3
            go_wp2
            go_ret2
            exact ⟨_, ret_pb (by rw [HE.out]; rfl), by rw [HE.out]; exact ⟨HO.out.1.mono hs (Nat.le_refl _), Nat.le_refl _⟩, HB.out⟩
      · have h3 : isAtomB u = false := by simpa using h3
        have HV := Lib.hid h
        have HE := Lib.hid (extV_bad3 (x := x) (v := v) h3)
        clear h
        go_enter Try.func109, Try.ntmps109
        go_wp2_with (first
          | (go_at_call 104; refine (cIsBinding HV.out hz).mono ?_; rintro e w1 ⟨rfl, b1⟩; rw [h1])
          | (go_at_call 124; refine (var_any _ _ hvm).mono ?_; rintro e w' ⟨rfl, rfl⟩; rw [h2])
          | (go_at_call 93; refine (atom_any _ _ hum).mono ?_; rintro e w' ⟨rfl, rfl⟩; rw [h3]))
        have HB := Lib.hid b1
        clear b1
        go_wp2
        go_ret2
        exact ⟨_, ret_pb (by rw [HE.out]; rfl), PO.none_ HE.out, HB.out⟩
    · have h2 : isVarB v = false := by simpa using h2
      have HV := Lib.hid h
      have HE := Lib.hid (extV_bad2 (x := x) (u := u) h2)
      clear h
      go_enter Try.func109, Try.ntmps109
      go_wp2_with (first
        | (go_at_call 104; refine (cIsBinding HV.out hz).mono ?_; rintro e w1 ⟨rfl, b1⟩; rw [h1])
        | (go_at_call 124; refine (var_any _ _ hvm).mono ?_; rintro e w' ⟨rfl, rfl⟩; rw [h2]))
      have HB := Lib.hid b1
      clear b1
      go_wp2
      go_ret2
      exact ⟨_, ret_pb (by rw [HE.out]; rfl), PO.none_ HE.out, HB.out⟩
  · have h1 : isBindB x = false := by simpa using h1
    have HV := Lib.hid h
    have HE := Lib.hid (extV_bad1 (v := v) (u := u) h1)
    clear h
    go_enter Try.func109, Try.ntmps109
    go_wp2_with (go_at_call 104; refine (cIsBinding HV.out hz).mono ?_; rintro e w1 ⟨rfl, b1⟩; rw [h1])
    have HB := Lib.hid b1
    clear b1
    go_wp2
    go_ret2
    exact ⟨_, ret_pb (by rw [HE.out]; rfl), PO.none_ HE.out, HB.out⟩
set_option maxHeartbeats 2000000 in
set_option maxRecDepth 100000 in
theorem cExtendS {val : Value} {x : Prs} {v u : ByteArray} {lo hi : Nat} {w : World} (h : Ob SP w lo hi val x) (hz : psz x ≤ 1048576) (hv : v.size ≤ 1048576) (hu : u.size ≤ 1048576) :
    Calls Try.prog 107 #[val, .string v, .string u] w fun e w' => ∃ v', e = .returned (.tuple #[v', .bool (extV x v u).isSome]) ∧ Ob (PO 111) w' w.heap.size w'.heap.size v' (oL (extV x v u)) ∧ Up w w' := by
  have hvm : v.size ≤ maxLen := by unfold maxLen; omega
  have hum : u.size ≤ maxLen := by unfold maxLen; omega
  have hlen := psz_len x
  by_cases h1 : isBindB x = true
  · by_cases h2 : isVarB v = true
    · by_cases h3 : isAtomB u = true
      · cases h4 : valOk x v
        · by_cases h5 : x.length < 6
          · obtain ⟨a, cap, rfl⟩ := h.1.form
            have HV := Lib.hid h
            have HE := Lib.hid (extV_new (u := u) h1 h2 h3 h4 h5)
            have hk : ((x.length : Int) == 6) = false := by simp; omega
            have hk2 : (6 : Int) ≠ (x.length : Int) := by omega
            clear h
            go_enter Try.func107, Try.ntmps107
            go_wp2_with (first
              | (go_at_call 101; refine (cIsBindingS HV.out hz).mono ?_; rintro e w1 ⟨rfl, b1⟩; rw [h1])
              | (go_at_call 114; refine (varS_any _ _ hvm).mono ?_; rintro e w' ⟨rfl, rfl⟩; rw [h2])
              | (go_at_call 90; refine (atomS_any _ _ hum).mono ?_; rintro e w' ⟨rfl, rfl⟩; rw [h3])
              | (go_at_call 102; refine (cValueOfS (HV.out.up b1) hv).mono ?_; rintro e w2 ⟨rfl, b2⟩; rw [h4])
              | (go_at_call 125; refine (cl3Set (HV.out.up (b1.tr b2)) (by omega)).mono ?_; rintro e w3 ⟨v', rfl, ho, b3⟩))
            have HO := Lib.hid ho
            have HB := Lib.hid ((Up.tr b1 b2).tr b3)
            have hs : w.heap.size ≤ w2.heap.size := (Up.tr b1 b2).size
            clear ho b1 b2 b3
            go_wp2
            go_ret2
            exact ⟨_, ret_pb (by rw [HE.out]; rfl), by rw [HE.out]; exact ⟨HO.out.1.mono hs (Nat.le_refl _), Nat.le_refl _⟩, HB.out⟩
          · obtain ⟨a, cap, rfl⟩ := h.1.form
            have HV := Lib.hid h
            have HE := Lib.hid (extV_full (u := u) h1 h2 h3 h4 h5)
            have hl6 := isBindB_len h1
            have hk : ((x.length : Int) == 6) = true := by simp; omega
            have hk2 : (6 : Int) ≤ (x.length : Int) := by omega
            clear h
            go_enter Try.func107, Try.ntmps107
            go_wp2_with (first
              | (go_at_call 101; refine (cIsBindingS HV.out hz).mono ?_; rintro e w1 ⟨rfl, b1⟩; rw [h1])
              | (go_at_call 114; refine (varS_any _ _ hvm).mono ?_; rintro e w' ⟨rfl, rfl⟩; rw [h2])
              | (go_at_call 90; refine (atomS_any _ _ hum).mono ?_; rintro e w' ⟨rfl, rfl⟩; rw [h3])
              | (go_at_call 102; refine (cValueOfS (HV.out.up b1) hv).mono ?_; rintro e w2 ⟨rfl, b2⟩; rw [h4]))
            have HB := Lib.hid (Up.tr b1 b2)
            clear b1 b2
            go_wp2
            go_ret2
            exact ⟨_, ret_pb (by rw [HE.out]; rfl), PO.emp_ HE.out HB.out.size, HB.out.al _⟩
        · cases h5 : ((valS x v).toList == u.toList)
          · obtain ⟨a, cap, rfl⟩ := h.1.form
            have HV := Lib.hid h
            have HE := Lib.hid (extV_diff h1 h2 h3 h4 h5)
            clear h
            go_enter Try.func107, Try.ntmps107
            go_wp2_with (first
              | (go_at_call 101; refine (cIsBindingS HV.out hz).mono ?_; rintro e w1 ⟨rfl, b1⟩; rw [h1])
              | (go_at_call 114; refine (varS_any _ _ hvm).mono ?_; rintro e w' ⟨rfl, rfl⟩; rw [h2])
              | (go_at_call 90; refine (atomS_any _ _ hum).mono ?_; rintro e w' ⟨rfl, rfl⟩; rw [h3])
              | (go_at_call 102; refine (cValueOfS (HV.out.up b1) hv).mono ?_; rintro e w2 ⟨rfl, b2⟩; rw [h4]))
            have HB := Lib.hid (Up.tr b1 b2)
            clear b1 b2
            go_wp2
            go_ret2
            exact ⟨_, ret_pb (by rw [HE.out]; rfl), PO.emp_ HE.out HB.out.size, HB.out.al _⟩
          · obtain ⟨a, cap, rfl⟩ := h.1.form
            have HV := Lib.hid h
            have HE := Lib.hid (extV_old h1 h2 h3 h4 h5)
            clear h
            go_enter Try.func107, Try.ntmps107
            go_wp2_with (first
              | (go_at_call 101; refine (cIsBindingS HV.out hz).mono ?_; rintro e w1 ⟨rfl, b1⟩; rw [h1])
              | (go_at_call 114; refine (varS_any _ _ hvm).mono ?_; rintro e w' ⟨rfl, rfl⟩; rw [h2])
              | (go_at_call 90; refine (atomS_any _ _ hum).mono ?_; rintro e w' ⟨rfl, rfl⟩; rw [h3])
              | (go_at_call 102; refine (cValueOfS (HV.out.up b1) hv).mono ?_; rintro e w2 ⟨rfl, b2⟩; rw [h4])
              | (go_at_call 106; refine (cCopyPS (HV.out.up (b1.tr b2)) (by omega)).mono ?_; rintro e w3 ⟨v', rfl, ho, b3⟩))
            have HO := Lib.hid ho
            have HB := Lib.hid ((Up.tr b1 b2).tr b3)
            have hs : w.heap.size ≤ w2.heap.size := (Up.tr b1 b2).size
            clear ho b1 b2 b3
            go_wp2
            go_ret2
            exact ⟨_, ret_pb (by rw [HE.out]; rfl), by rw [HE.out]; exact ⟨HO.out.1.mono hs (Nat.le_refl _), Nat.le_refl _⟩, HB.out⟩
      · have h3 : isAtomB u = false := by simpa using h3
        have HV := Lib.hid h
        have HE := Lib.hid (extV_bad3 (x := x) (v := v) h3)
        clear h
        go_enter Try.func107, Try.ntmps107
        go_wp2_with (first
          | (go_at_call 101; refine (cIsBindingS HV.out hz).mono ?_; rintro e w1 ⟨rfl, b1⟩; rw [h1])
          | (go_at_call 114; refine (varS_any _ _ hvm).mono ?_; rintro e w' ⟨rfl, rfl⟩; rw [h2])
          | (go_at_call 90; refine (atomS_any _ _ hum).mono ?_; rintro e w' ⟨rfl, rfl⟩; rw [h3]))
        have HB := Lib.hid b1
        clear b1
        go_wp2
        go_ret2
        exact ⟨_, ret_pb (by rw [HE.out]; rfl), PO.emp_ HE.out HB.out.size, HB.out.al _⟩
    · have h2 : isVarB v = false := by simpa using h2
      have HV := Lib.hid h
      have HE := Lib.hid (extV_bad2 (x := x) (u := u) h2)
      clear h
      go_enter Try.func107, Try.ntmps107
      go_wp2_with (first
        | (go_at_call 101; refine (cIsBindingS HV.out hz).mono ?_; rintro e w1 ⟨rfl, b1⟩; rw [h1])
        | (go_at_call 114; refine (varS_any _ _ hvm).mono ?_; rintro e w' ⟨rfl, rfl⟩; rw [h2]))
      have HB := Lib.hid b1
      clear b1
      go_wp2
      go_ret2
      exact ⟨_, ret_pb (by rw [HE.out]; rfl), PO.emp_ HE.out HB.out.size, HB.out.al _⟩
  · have h1 : isBindB x = false := by simpa using h1
    have HV := Lib.hid h
    have HE := Lib.hid (extV_bad1 (v := v) (u := u) h1)
    clear h
    go_enter Try.func107, Try.ntmps107
    go_wp2_with (go_at_call 101; refine (cIsBindingS HV.out hz).mono ?_; rintro e w1 ⟨rfl, b1⟩; rw [h1])
    have HB := Lib.hid b1
    clear b1
    go_wp2
    go_ret2
    exact ⟨_, ret_pb (by rw [HE.out]; rfl), PO.emp_ HE.out HB.out.size, HB.out.al _⟩
end Go.Proofs.Ytojgkodffmdnpaa
