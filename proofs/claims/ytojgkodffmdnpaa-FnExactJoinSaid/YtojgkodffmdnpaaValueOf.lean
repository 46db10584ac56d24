/- The contracts of ValueOf, the program's and the reference's: both return the same plain functions of the pairs and the term; wherever the lengths can be counted. -/
import Derived.Test.YtojgkodffmdnpaaIsBind
namespace Go.Proofs.Ytojgkodffmdnpaa
open Go.RowKit
attribute [local go_sem ↓] Go.wp_at_zero Go.wp_at_succ
def findP (b : List (ByteArray × ByteArray)) (t : ByteArray) : Option ByteArray := (b.find? fun p => decide (p.1 = t)).map (·.2)
def valueB (b : List (ByteArray × ByteArray)) (t : ByteArray) : Option ByteArray := if isAtomB t then some t else if isVarB t then findP b t else none
def valS (b : List (ByteArray × ByteArray)) (t : ByteArray) : ByteArray := (valueB b t).getD ⟨#[]⟩
def valOk (b : List (ByteArray × ByteArray)) (t : ByteArray) : Bool := (valueB b t).isSome
def noneTo (b : List (ByteArray × ByteArray)) (t : ByteArray) (k : Nat) : Prop := findP (b.take k) t = none
theorem find_take_none {α : Type} {b : List α} {p : α → Bool} {k : Nat} (h : (b.take k).find? p = none) (hk : k < b.length) (h' : p b[k] = false) : (b.take (k+1)).find? p = none := by
  rw [List.take_succ_eq_append_getElem hk, List.find?_append, h]; simp [h']
theorem find_take_some {α : Type} {b : List α} {p : α → Bool} {k : Nat} (h : (b.take k).find? p = none) (hk : k < b.length) (h' : p b[k] = true) : b.find? p = some b[k] := by
  conv => lhs; rw [← List.take_append_drop k b]
  rw [List.find?_append, h, List.drop_eq_getElem_cons hk, List.find?_cons, h']; rfl
theorem noneTo_succ {b : List (ByteArray × ByteArray)} {t : ByteArray} {k : Nat} (h : noneTo b t k) (hk : k < b.length) (h' : (b[k].1.toList == t.toList) = false) : noneTo b t (k+1) := by
  unfold noneTo findP at *
  rw [Option.map_eq_none_iff] at *
  exact find_take_none h hk (by simpa using str_eq_f h')
theorem noneTo_some {b : List (ByteArray × ByteArray)} {t : ByteArray} {k : Nat} (h : noneTo b t k) (hk : k < b.length) (h' : (b[k].1.toList == t.toList) = true) : findP b t = some b[k].2 := by
  unfold noneTo findP at *
  rw [Option.map_eq_none_iff] at h
  rw [find_take_some h hk (by simpa using str_eq_t h')]; rfl
theorem noneTo_all {b : List (ByteArray × ByteArray)} {t : ByteArray} {k : Nat} (h : noneTo b t k) (hk : b.length ≤ k) : findP b t = none := by
  unfold noneTo at h; rwa [List.take_of_length_le hk] at h
theorem ret_sb {a a' : ByteArray} {b b' : Bool} (h : a = a') (h' : b = b') : Ending.returned (.tuple #[.string a, .bool b]) = .returned (.tuple #[.string a', .bool b']) := by rw [h, h']
theorem val_atom {b : List (ByteArray × ByteArray)} {t : ByteArray} (h : isAtomB t = true) : t = valS b t ∧ true = valOk b t := by unfold valS valOk valueB; simp [h]
theorem val_no {b : List (ByteArray × ByteArray)} {t : ByteArray} (h : isAtomB t = false) (h' : isVarB t = false) : (⟨#[]⟩ : ByteArray) = valS b t ∧ false = valOk b t := by unfold valS valOk valueB; simp [h, h']
theorem val_some {b : List (ByteArray × ByteArray)} {t s : ByteArray} (h : isAtomB t = false) (h' : isVarB t = true) (hf : findP b t = some s) : s = valS b t ∧ true = valOk b t := by unfold valS valOk valueB; simp [h, h', hf]
theorem val_none {b : List (ByteArray × ByteArray)} {t : ByteArray} (h : isAtomB t = false) (hf : findP b t = none) : (⟨#[]⟩ : ByteArray) = valS b t ∧ false = valOk b t := by unfold valS valOk valueB; simp [h, hf]
set_option maxHeartbeats 1000000 in
theorem cValueOf {v : Value} {x : List (ByteArray × ByteArray)} {t : ByteArray} {lo hi : Nat} {w : World} (h : Ob SP w lo hi v x) (ht : t.size ≤ 1048576) :
    Calls Try.prog 105 #[v, .string t] w fun e w' => e = .returned (.tuple #[.string (valS x t), .bool (valOk x t)]) ∧ Up w w' := by
  have htm : t.size ≤ maxLen := by unfold maxLen; omega
  have hlen := h.1.len
  obtain ⟨a, cap, rfl⟩ := h.1.form
  have HV := Lib.hid h
  clear h
  go_enter Try.func105, Try.ntmps105
  cases hA : isAtomB t
  · cases hC : isVarB t
    · have HF := Lib.hid (val_no (b := x) hA hC)
      go_wp2_with (first | (go_at_call 93; refine (atom_any _ _ htm).mono ?_; rintro e w' ⟨rfl, rfl⟩) | (go_at_call 124; refine (var_any _ _ htm).mono ?_; rintro e w' ⟨rfl, rfl⟩))
      go_ret2
      exact ⟨ret_sb HF.out.1 HF.out.2, Up.rf w⟩
    · go_wp2_with (first | (go_at_call 93; refine (atom_any _ _ htm).mono ?_; rintro e w' ⟨rfl, rfl⟩) | (go_at_call 124; refine (var_any _ _ htm).mono ?_; rintro e w' ⟨rfl, rfl⟩))
      have HA := Lib.hid hA
      have HC := Lib.hid hC
      clear hA hC
      go_loopw [16] (fun i wr => ∃ (k : Nat), k ≤ x.length ∧ i = .int .i64 k ∧ Hid (noneTo x t k) ∧ Up w wr) (fun i _ => x.length - (intOf i).toNat)
      case atStart => exact ⟨0, Nat.zero_le _, rfl, rfl, Up.rf w⟩
      case round =>
        obtain ⟨k, hk, rfl, H, hb⟩ := hrel
        by_cases hlt : k < x.length
        · obtain ⟨b, off, rfl, c0, c1⟩ := SP.at (HV.out.up hb).1 hlt
          have i1 : (0 : Int) ≤ (k : Int) := by omega
          have i2 : (k : Int) < (x.length : Int) := by omega
          cases hq : (x[k].1.toList == t.toList)
          · have HF := Lib.hid (noneTo_succ H.out hlt hq)
            go_wp2
            exact ⟨⟨k+1, by omega, by go_num, HF, hb.al _⟩, by simp [intOf]; omega⟩
          · have HF := Lib.hid (val_some HA.out HC.out (noneTo_some H.out hlt hq))
            go_wp2
            go_ret2
            exact ⟨ret_sb HF.out.1 HF.out.2, hb.al _⟩
        · have HF := Lib.hid (val_none HA.out (noneTo_all H.out (by omega)))
          go_wp2
          go_ret2
          exact ⟨ret_sb HF.out.1 HF.out.2, hb⟩
  · have HF := Lib.hid (val_atom (b := x) hA)
    go_wp2_with (first | (go_at_call 93; refine (atom_any _ _ htm).mono ?_; rintro e w' ⟨rfl, rfl⟩) | (go_at_call 124; refine (var_any _ _ htm).mono ?_; rintro e w' ⟨rfl, rfl⟩))
    go_ret2
    exact ⟨ret_sb HF.out.1 HF.out.2, Up.rf w⟩
set_option maxHeartbeats 1000000 in
theorem cValueOfS {v : Value} {x : List (ByteArray × ByteArray)} {t : ByteArray} {lo hi : Nat} {w : World} (h : Ob SP w lo hi v x) (ht : t.size ≤ 1048576) :
    Calls Try.prog 102 #[v, .string t] w fun e w' => e = .returned (.tuple #[.string (valS x t), .bool (valOk x t)]) ∧ Up w w' := by
  have htm : t.size ≤ maxLen := by unfold maxLen; omega
  have hlen := h.1.len
  obtain ⟨a, cap, rfl⟩ := h.1.form
  have HV := Lib.hid h
  clear h
  go_enter Try.func102, Try.ntmps102
  cases hA : isAtomB t
  · go_wp2_with (first | (go_at_call 90; refine (atomS_any _ _ htm).mono ?_; rintro e w' ⟨rfl, rfl⟩))
    have HA := Lib.hid hA
    clear hA
    go_loop [6] (fun i => ∃ (k : Nat), k ≤ x.length ∧ i = .int .i64 k ∧ Hid (isVarB t = false ∨ noneTo x t k)) (fun i => x.length - (intOf i).toNat)
    case atStart => exact ⟨0, Nat.zero_le _, rfl, .inr rfl⟩
    case round =>
      obtain ⟨k, hk, rfl, H⟩ := hrel
      by_cases hlt : k < x.length
      · obtain ⟨b, off, rfl, c0, c1⟩ := SP.at HV.out.1 hlt
        have i1 : (0 : Int) ≤ (k : Int) := by omega
        have i2 : (k : Int) < (x.length : Int) := by omega
        cases hq : (x[k].1.toList == t.toList)
        · have HF : Hid (isVarB t = false ∨ noneTo x t (k+1)) := H.out.imp id fun h => noneTo_succ h hlt hq
          go_wp2_with (first | (go_at_call 114; refine (varS_any _ _ htm).mono ?_; rintro e w' ⟨rfl, rfl⟩))
          exact ⟨⟨k+1, by omega, by go_num, HF⟩, by simp [intOf]; omega⟩
        · cases hC : isVarB t
          · skip
            go_wp2_with (first | (go_at_call 114; refine (varS_any _ _ htm).mono ?_; rintro e w' ⟨rfl, rfl⟩))
            exact ⟨⟨k+1, by omega, by go_num, .inl trivial⟩, by simp [intOf]; omega⟩
          · have HF := Lib.hid (val_some HA.out hC (noneTo_some (H.out.resolve_left (by rw [hC]; simp)) hlt hq))
            go_wp2_with (first | (go_at_call 114; refine (varS_any _ _ htm).mono ?_; rintro e w' ⟨rfl, rfl⟩))
            go_ret2
            exact ⟨ret_sb HF.out.1 HF.out.2, Up.rf w⟩
      · have HF : Hid ((⟨#[]⟩ : ByteArray) = valS x t ∧ false = valOk x t) := H.out.elim (fun h => val_no HA.out h) (fun h => val_none HA.out (noneTo_all h (by omega)))
        go_wp2
        go_ret2
        exact ⟨ret_sb HF.out.1 HF.out.2, Up.rf w⟩
  · have HF := Lib.hid (val_atom (b := x) hA)
    go_wp2_with (first | (go_at_call 90; refine (atomS_any _ _ htm).mono ?_; rintro e w' ⟨rfl, rfl⟩))
    go_ret2
    exact ⟨ret_sb HF.out.1 HF.out.2, Up.rf w⟩
end Go.Proofs.Ytojgkodffmdnpaa
