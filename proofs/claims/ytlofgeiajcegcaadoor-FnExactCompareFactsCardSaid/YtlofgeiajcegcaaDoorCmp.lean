/- IsNumber and CompareAtoms, the program's and the reference's, as one plain function of the texts. -/
import Derived.Test.YtlofgeiajcegcaaDoorNum
import Derived.Lib.Bytealg
namespace Go.Proofs.YtlofgeiajcegcaaDoor
open Go.RowKit
attribute [local go_sem ↓] Go.wp_at_zero Go.wp_at_succ
set_option linter.unusedVariables false
theorem cmpB_less : ∀ a b : List UInt8, Lib.compareBytes a b = if Op.bytesLess a b then -1 else if a == b then 0 else 1
  | [], [] => rfl
  | [], _ :: _ => rfl
  | _ :: _, [] => rfl
  | a :: x, b :: y => by
    simp only [Lib.compareBytes, Op.bytesLess]
    by_cases h1 : a < b
    · simp [h1]
    · by_cases h2 : b < a
      · have : ¬ a = b := fun e => by subst e; exact h1 h2
        simp [h1, h2, this]
      · obtain rfl : a = b := UInt8.le_antisymm (UInt8.not_lt.1 h2) (UInt8.not_lt.1 h1)
        simp [cmpB_less x y]
def cmpI (a b : Int) : Int := if a < b then -1 else if b < a then 1 else 0
def cmpS (a b : ByteArray) : Int := Lib.compareBytes a.data.toList b.data.toList
theorem cmpS_eq (a b : ByteArray) : cmpS a b = if Op.bytesLess a.toList b.toList then -1 else if a.toList == b.toList then 0 else 1 := by
  unfold cmpS; rw [cmpB_less, ByteArray.toList_eq, ByteArray.toList_eq]
def cmpA (a b : ByteArray) : Int := if numOk a then (if numOk b then cmpI (numV a) (numV b) else -1) else if numOk b then 1 else cmpS a b
theorem cIsNumber {s : ByteArray} {w : World} (hT : Tabs w) (hs : s.size ≤ 1048576) :
    Calls Tryd.prog 10 #[.string s] w fun e w' => e = .returned (.bool (numOk s)) ∧ Up w w' := by
  go_enter Tryd.func10, Tryd.ntmps10
  go_wp2_with fail
  refine (cParseInt hT hs).mono ?_
  rintro e w1 ⟨rfl, b1⟩
  go_wp2
  go_ret
  exact ⟨rfl, b1⟩
theorem cIsNumberS {s : ByteArray} {w : World} (hs : s.size ≤ 1048576) :
    Calls Tryd.prog 9 #[.string s] w fun e w' => e = .returned (.bool (numOk s)) ∧ Up w w' := by
  go_enter Tryd.func9, Tryd.ntmps9
  go_wp2_with fail
  refine (cParseIntS hs).mono ?_
  rintro e w1 ⟨rfl, b1⟩
  go_wp2
  go_ret
  exact ⟨rfl, b1⟩
theorem cmpI_any (a b : Int) (w : World) : Calls Tryd.prog 23 #[.int .i64 a, .int .i64 b] w fun e w' => e = .returned (.int .i64 (cmpI a b)) ∧ w = w' := by
  by_cases h1 : a < b
  · have HE : Hid (cmpI a b = -1) := by show _ = _; unfold cmpI; rw [if_pos h1]
    go_enter Tryd.func23, Tryd.ntmps23
    go_wp2
    go_ret
    exact ⟨ret_int HE.out.symm, rfl⟩
  · by_cases h2 : b < a
    · have HE : Hid (cmpI a b = 1) := by show _ = _; unfold cmpI; rw [if_neg h1, if_pos h2]
      go_enter Tryd.func23, Tryd.ntmps23
      go_wp2
      go_ret
      exact ⟨ret_int HE.out.symm, rfl⟩
    · have HE : Hid (cmpI a b = 0) := by show _ = _; unfold cmpI; rw [if_neg h1, if_neg h2]
      go_enter Tryd.func23, Tryd.ntmps23
      go_wp2
      go_ret
      exact ⟨ret_int HE.out.symm, rfl⟩
theorem cmpSS_any (a b : ByteArray) (w : World) : Calls Tryd.prog 22 #[.string a, .string b] w fun e w' => e = .returned (.int .i64 (cmpS a b)) ∧ w = w' := by
  have HE := Lib.hid (cmpS_eq a b)
  cases h1 : Op.bytesLess a.toList b.toList
  · cases h2 : (a.toList == b.toList)
    all_goals
      go_enter Tryd.func22, Tryd.ntmps22
      go_wp2
      go_ret
      exact ⟨ret_int (by rw [HE.out, h1, h2]; rfl), rfl⟩
  · go_enter Tryd.func22, Tryd.ntmps22
    go_wp2
    go_ret
    exact ⟨ret_int (by rw [HE.out, h1]; rfl), rfl⟩
set_option maxHeartbeats 1000000 in
theorem cCmpAtoms {a b : ByteArray} {w : World} (hT : Tabs w) (ha : a.size ≤ 1048576) (hb : b.size ≤ 1048576) :
    Calls Tryd.prog 12 #[.string a, .string b] w fun e w' => e = .returned (.int .i64 (cmpA a b)) ∧ Up w w' := by
  have HT := Lib.hid hT
  clear hT
  have HE : Hid (cmpA a b = if numOk a then (if numOk b then cmpI (numV a) (numV b) else -1) else if numOk b then 1 else cmpS a b) := rfl
  cases h1 : numOk a <;> cases h2 : numOk b
  all_goals
    rw [h1, h2] at HE
    go_enter Tryd.func12, Tryd.ntmps12
    go_wp2_with fail
    refine (cParseInt HT.out ha).mono ?_
    rintro e w1 ⟨rfl, b1⟩
    rw [h1]
    have HT1 := Lib.hid (HT.out.up b1)
    go_wp2_with fail
    refine (cParseInt HT1.out hb).mono ?_
    rintro e w2 ⟨rfl, b2⟩
    rw [h2]
    have b12 := b1.tr b2
    clear b1 b2 h1 h2
  · go_wp2_with fail
    refine (Tryd.strings_Compare _ _ _).mono ?_
    rintro e w3 ⟨rfl, rfl⟩
    go_wp2
    go_ret
    exact ⟨ret_int HE.out.symm, b12⟩
  · go_wp2
    go_ret
    exact ⟨ret_int HE.out.symm, b12⟩
  · go_wp2
    go_ret
    exact ⟨ret_int HE.out.symm, b12⟩
  · go_wp2_with fail
    refine (cmpI_any _ _ _).mono ?_
    rintro e w3 ⟨rfl, rfl⟩
    go_wp2
    go_ret
    exact ⟨ret_int HE.out.symm, b12⟩
set_option maxHeartbeats 1000000 in
theorem cCmpAtomsS {a b : ByteArray} {w : World} (ha : a.size ≤ 1048576) (hb : b.size ≤ 1048576) :
    Calls Tryd.prog 11 #[.string a, .string b] w fun e w' => e = .returned (.int .i64 (cmpA a b)) ∧ Up w w' := by
  have HE : Hid (cmpA a b = if numOk a then (if numOk b then cmpI (numV a) (numV b) else -1) else if numOk b then 1 else cmpS a b) := rfl
  cases h1 : numOk a <;> cases h2 : numOk b
  all_goals
    rw [h1, h2] at HE
    go_enter Tryd.func11, Tryd.ntmps11
    go_wp2_with fail
    refine (cParseIntS ha).mono ?_
    rintro e w1 ⟨rfl, b1⟩
    rw [h1]
    go_wp2_with fail
    refine (cParseIntS hb).mono ?_
    rintro e w2 ⟨rfl, b2⟩
    rw [h2]
    have b12 := b1.tr b2
    clear b1 b2 h1 h2
  · go_wp2_with fail
    refine (cmpSS_any _ _ _).mono ?_
    rintro e w3 ⟨rfl, rfl⟩
    go_wp2
    go_ret
    exact ⟨ret_int HE.out.symm, b12⟩
  · go_wp2
    go_ret
    exact ⟨ret_int HE.out.symm, b12⟩
  · go_wp2
    go_ret
    exact ⟨ret_int HE.out.symm, b12⟩
  · generalize numV a = p at *
    generalize numV b = q at *
    by_cases h1 : p < q
    · have h2 : ¬ q < p := by omega
      have HF : Hid (cmpA a b = -1) := by have := HE.out; show _ = _; rw [this]; simp [cmpI, h1]
      go_wp2
      go_ret
      exact ⟨ret_int HF.out.symm, b12⟩
    · by_cases h2 : q < p
      · have HF : Hid (cmpA a b = 1) := by have := HE.out; show _ = _; rw [this]; simp [cmpI, h1, h2]
        go_wp2
        go_ret
        exact ⟨ret_int HF.out.symm, b12⟩
      · have HF : Hid (cmpA a b = 0) := by have := HE.out; show _ = _; rw [this]; simp [cmpI, h1, h2]
        go_wp2
        go_ret
        exact ⟨ret_int HF.out.symm, b12⟩
end Go.Proofs.YtlofgeiajcegcaaDoor
