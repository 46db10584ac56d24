/- A word with arguments in parentheses, read by the program and by the reference; ParseFact and ParsePattern; wherever the lengths can be counted. -/
import Derived.BigQuiet
import Derived.Test.YtjaifoeagocapaaDoorSpl
import Derived.Test.YtjaifoeagocapaaDoorForm
import Derived.Test.YtjaifoeagocapaaDoorPlT
namespace Go.Proofs.YtjaifoeagocapaaDoor
open Go.RowKit
attribute [local go_sem ↓] Go.wp_at_zero Go.wp_at_succ
set_option linter.unusedVariables false
def oR (o : Option (ByteArray × List ByteArray)) : ByteArray := match o with | some p => p.1 | none => ⟨#[]⟩
def oA (o : Option (ByteArray × List ByteArray)) : List ByteArray := match o with | some p => p.2 | none => []
theorem cut_len (s sep : List UInt8) : (Lib.cut s sep).1.length ≤ s.length ∧ (Lib.cut s sep).2.1.length ≤ s.length := by
  unfold Lib.cut; split
  · simp; omega
  · simp
theorem callV_0 {s : ByteArray} {b r : List UInt8} (h : Lib.cut s.data.toList [40] = (b, r, false)) : callV s = none := by unfold callV; rw [h]; rfl
theorem callV_1 {s : ByteArray} {b r : List UInt8} (h : Lib.cut s.data.toList [40] = (b, r, true)) (h' : Lib.hasSuffix r [41] = false) : callV s = none := by unfold callV; rw [h]; simp only [h']; rfl
theorem callV_2 {s : ByteArray} {b r : List UInt8} (h : Lib.cut s.data.toList [40] = (b, r, true)) (h' : Lib.hasSuffix r [41] = true) : callV s = some (⟨b.toArray⟩, inV ⟨r.toArray⟩) := by unfold callV; rw [h]; simp only [h']; rfl
theorem inV_0 {B : ByteArray} (h : (B.extract 0 (B.size - 1)).size = 0) : inV B = [] := by unfold inV; rw [if_pos h]
theorem inV_1 {B : ByteArray} (h : (B.extract 0 (B.size - 1)).size ≠ 0) : inV B = spB (B.extract 0 (B.size - 1)) tCo := by unfold inV; rw [if_neg h]
theorem ret_sab {a a' : ByteArray} {v v' : Value} {b b' : Bool} (h : a = a') (h1 : v = v') (h' : b = b') : Ending.returned (.tuple #[.string a, v, .bool b]) = .returned (.tuple #[.string a', v', .bool b']) := by rw [h, h1, h']
theorem suffix_size {r : List UInt8} (h : Lib.hasSuffix r [41] = true) : 1 ≤ r.length := by
  obtain ⟨t, rfl⟩ := suffix_form h; simp
theorem mk_size (l : List UInt8) : (⟨l.toArray⟩ : ByteArray).size = l.length := by simp [ByteArray.size]
set_option maxHeartbeats 1000000 in
theorem cCalled {s : ByteArray} {w : World} (hM : MxL w) (hs : s.size ≤ 1048576) :
    Calls Tryd.prog 31 #[.string s] w fun e w' => ∃ v', e = .returned (.tuple #[.string (oR (callV s)), v', .bool (callV s).isSome]) ∧ Ob (TO 9) w' w.heap.size w'.heap.size v' (oA (callV s)) ∧ Up w w' := by
  have HM := Lib.hid hM
  obtain ⟨m, hm⟩ := hM
  have hcl := (cut_len s.data.toList [40]).2
  rcases hc : Lib.cut s.data.toList [40] with ⟨b, r, f⟩
  rw [hc] at hcl
  have hrl : r.length ≤ 1048576 := Nat.le_trans hcl (by simpa using hs)
  clear hcl
  have HC := Lib.hid hc
  clear hc
  go_enter Tryd.func31, Tryd.ntmps31
  go_wp2_with fail
  refine (Tryd.strings_Cut s ⟨#[40]⟩ m _ (by omega) hm).mono ?_
  rintro e w1 ⟨rfl, n, rfl⟩
  rw [show (⟨#[40]⟩ : ByteArray).data.toList = [40] from rfl, HC.out]
  have HU : Hid (Up w (w.drewN n)) := below_drewN (Up.rf w) n
  generalize w.drewN n = w1 at *
  have HM1 := Lib.hid (HM.out.up HU.out)
  clear hm
  cases f
  · have HE := Lib.hid (callV_0 HC.out)
    go_wp2
    go_ret3
    exact ⟨_, ret_sab (by rw [HE.out]; rfl) rfl (by rw [HE.out]; rfl), ⟨by rw [HE.out]; exact TO.nil_ _ _ _ _, Nat.le_refl _⟩, HU.out⟩
  · go_wp2_with fail
    refine (Tryd.strings_HasSuffix ⟨r.toArray⟩ ⟨#[41]⟩ _ (by rw [mk_size]; omega)).mono ?_
    rintro e w1 ⟨rfl, rfl⟩
    rw [show (⟨r.toArray⟩ : ByteArray).data.toList = r from by simp, show (⟨#[41]⟩ : ByteArray).data.toList = [41] from rfl]
    cases hS : Lib.hasSuffix r [41]
    · have HE := Lib.hid (callV_1 HC.out hS)
      clear hS
      go_wp2
      go_ret3
      exact ⟨_, ret_sab (by rw [HE.out]; rfl) rfl (by rw [HE.out]; rfl), ⟨by rw [HE.out]; exact TO.nil_ _ _ _ _, Nat.le_refl _⟩, HU.out⟩
    · have HE := Lib.hid (callV_2 HC.out hS)
      have hz1 := suffix_size hS
      have hz2 := mk_size r
      clear hS HC
      generalize (⟨r.toArray⟩ : ByteArray) = B at *
      have hB1 : (1 : Int) ≤ B.size := by omega
      have hB2 : B.size ≤ 1048576 := by omega
      clear hz1 hz2 hrl
      have hw : ((B.size : Int) - 1) = ((B.size - 1 : Nat) : Int) := by omega
      by_cases h0 : (B.extract 0 (B.size - 1)).size = 0
      · have HI := Lib.hid (inV_0 h0)
        have hq : ((B.extract 0 (B.size - 1)).toList == ([] : List UInt8)) = true := by rw [sep_t h0, ByteArray.toList_eq]; rfl
        go_wp2_with fail
        go_ret3
        exact ⟨_, ret_sab (by rw [HE.out]; rfl) rfl (by rw [HE.out]; rfl), ⟨by rw [HE.out]; show TO _ _ _ _ _ (inV B); rw [HI.out]; exact TO.nil_ _ _ _ _, Nat.le_refl _⟩, HU.out⟩
      · have HI := Lib.hid (inV_1 h0)
        have hq := sep_f h0
        obtain ⟨m, hm⟩ := HM1.out
        have hl := spB_le (B.extract 0 (B.size - 1)) tCo (by decide)
        have hxs : (B.extract 0 (B.size - 1)).size ≤ 1048576 := by simp; omega
        have HO := Lib.hid (TO.row_ 9 w1 (spB (B.extract 0 (B.size - 1)) tCo) (by omega))
        have HL := Lib.hid (spB_len (B.extract 0 (B.size - 1)) tCo (by decide))
        go_wp2_with fail
        refine (Tryd.strings_Split (B.extract 0 (B.size - 1)) ⟨#[44]⟩ m _ (by omega) hm (by decide)).mono ?_
        rintro e w2 ⟨rfl, hw2⟩
        have HU2 : Hid (Up w w2) := by rw [hw2]; exact HU.out.al _
        have HR : Hid (Ob (TO 9) w2 w.heap.size w2.heap.size (.slice (some ⟨w1.heap.size, 0, none⟩) (Lib.countB (B.extract 0 (B.size - 1)) tCo + 1) (Lib.countB (B.extract 0 (B.size - 1)) tCo + 1)) (inV B)) := by
          have := HO.out
          rw [HL.out] at this
          rw [HI.out, hw2]; exact ⟨this.mono HU.out.size (Nat.le_refl _), Nat.le_refl _⟩
        clear hw2 hm
        rw [show (⟨#[44]⟩ : ByteArray) = tCo from rfl]
        generalize Lib.countB (B.extract 0 (B.size - 1)) tCo = q at *
        go_wp2
        go_ret3
        exact ⟨_, ret_sab (by rw [HE.out]; rfl) rfl (by rw [HE.out]; rfl), by rw [HE.out]; exact HR.out, HU2.out⟩
end Go.Proofs.YtjaifoeagocapaaDoor
