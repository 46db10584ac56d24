/- IsNumber and CompareAtoms, the program's and the reference's, as one plain function of the texts. -/
import Derived.Test.YtpkphijfncbbiaaNum
import Derived.Lib.Bytealg
namespace Go.Proofs.Ytpkphijfncbbiaa
open Go.RowKit
attribute [local go_sem ↓] Go.wp_at_zero Go.wp_at_succ
set_option linter.unusedVariables false
theorem cmpB_less : ∀ a b : List UInt8, Lib.compareBytes a b = if Op.bytesLess a b then -1 else if a == b then 0 else 1
  | [], [] => rfl
  | [], _ :: _ => rfl
  | _ :: _, [] => rfl
  | a :: x, b :: y => by
    simp only [Lib.compareBytes, Op.bytesLess]
    by_cases h1 : a < b
    · simp [h1]
    · by_cases h2 : b < a
      · have : ¬ a = b := fun e => by subst e; exact h1 h2
        simp [h1, h2, this]
      · obtain rfl : a = b := UInt8.le_antisymm (UInt8.not_lt.1 h2) (UInt8.not_lt.1 h1)
        simp [cmpB_less x y]
def cmpI (a b : Int) : Int := if a < b then -1 else if b < a then 1 else 0
def cmpS (a b : ByteArray) : Int := Lib.compareBytes a.data.toList b.data.toList
theorem cmpS_eq (a b : ByteArray) : cmpS a b = if Op.bytesLess a.toList b.toList then -1 else if a.toList == b.toList then 0 else 1 := by
  unfold cmpS; rw [cmpB_less, ByteArray.toList_eq, ByteArray.toList_eq]
def cmpA (a b : ByteArray) : Int := if numOk a then (if numOk b then cmpI (numV a) (numV b) else -1) else if numOk b then 1 else cmpS a b
theorem cmpSS_any (a b : ByteArray) (w : World) : Calls Try.prog 67 #[.string a, .string b] w fun e w' => e = .returned (.int .i64 (cmpS a b)) ∧ w = w' := by
  have HE := Lib.hid (cmpS_eq a b)
  cases h1 : Op.bytesLess a.toList b.toList
  · cases h2 : (a.toList == b.toList)
    all_goals
      go_enter Try.func67, Try.ntmps67
      go_wp2
      go_ret
      exact ⟨ret_int (by rw [HE.out, h1, h2]; rfl), rfl⟩
  · go_enter Try.func67, Try.ntmps67
    go_wp2
    go_ret
    exact ⟨ret_int (by rw [HE.out, h1]; rfl), rfl⟩
set_option maxHeartbeats 1000000 in
theorem cCmpAtomsS {a b : ByteArray} {w : World} (ha : a.size ≤ 1048576) (hb : b.size ≤ 1048576) :
    Calls Try.prog 68 #[.string a, .string b] w fun e w' => e = .returned (.int .i64 (cmpA a b)) ∧ Up w w' := by
  have HE : Hid (cmpA a b = if numOk a then (if numOk b then cmpI (numV a) (numV b) else -1) else if numOk b then 1 else cmpS a b) := rfl
  cases h1 : numOk a <;> cases h2 : numOk b
  all_goals
    rw [h1, h2] at HE
    go_enter Try.func68, Try.ntmps68
    go_wp2_with fail
    refine (cParseIntS ha).mono ?_
    rintro e w1 ⟨rfl, b1⟩
    rw [h1]
    go_wp2_with fail
    refine (cParseIntS hb).mono ?_
    rintro e w2 ⟨rfl, b2⟩
    rw [h2]
    have b12 := b1.tr b2
    clear b1 b2 h1 h2
  · go_wp2_with fail
    refine (cmpSS_any _ _ _).mono ?_
    rintro e w3 ⟨rfl, rfl⟩
    go_wp2
    go_ret
    exact ⟨ret_int HE.out.symm, b12⟩
  · go_wp2
    go_ret
    exact ⟨ret_int HE.out.symm, b12⟩
  · go_wp2
    go_ret
    exact ⟨ret_int HE.out.symm, b12⟩
  · generalize numV a = p at *
    generalize numV b = q at *
    by_cases h1 : p < q
    · have h2 : ¬ q < p := by omega
      have HF : Hid (cmpA a b = -1) := by have := HE.out; show _ = _; rw [this]; simp [cmpI, h1]
      go_wp2
      go_ret
      exact ⟨ret_int HF.out.symm, b12⟩
    · by_cases h2 : q < p
      · have HF : Hid (cmpA a b = 1) := by have := HE.out; show _ = _; rw [this]; simp [cmpI, h1, h2]
        go_wp2
        go_ret
        exact ⟨ret_int HF.out.symm, b12⟩
      · have HF : Hid (cmpA a b = 0) := by have := HE.out; show _ = _; rw [this]; simp [cmpI, h1, h2]
        go_wp2
        go_ret
        exact ⟨ret_int HF.out.symm, b12⟩
end Go.Proofs.Ytpkphijfncbbiaa
