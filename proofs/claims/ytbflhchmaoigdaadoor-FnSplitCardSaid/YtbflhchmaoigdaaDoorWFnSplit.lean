/- The walk of the law FnSplit: for every input the call returns true and nothing that was there has turned. -/
import Derived.BigQuiet
import Derived.Test.YtbflhchmaoigdaaDoorDr2
import Derived.Test.YtbflhchmaoigdaaDoorSpl
import Derived.Test.YtbflhchmaoigdaaDoorJoin
import Derived.Test.YtbflhchmaoigdaaDoorSort
import Derived.Test.YtbflhchmaoigdaaDoorPlT
import Derived.Test.YtbflhchmaoigdaaDoorIsBind
namespace Go.Proofs.YtbflhchmaoigdaaDoor
open Go.RowKit
attribute [local go_sem ↓] Go.wp_at_zero Go.wp_at_succ
set_option linter.unusedVariables false
set_option maxHeartbeats 400000 in
theorem chasTL {v : Value} {x : List ByteArray} {s : ByteArray} {lo hi : Nat} {w : World} (h : Ob TX w lo hi v x) :
    Calls Tryd.prog 71 #[v, .string s] w fun e w' => e = .returned (.bool (hasB x s)) ∧ w = w' := by
  have hlen := h.1.len
  obtain ⟨a, cap, rfl⟩ := h.1.form
  have HV := Lib.hid h
  clear h
  go_enter Tryd.func71, Tryd.ntmps71
  go_wp2
  go_loop [5] (fun i => ∃ (k : Nat), k ≤ x.length ∧ i = .int .i64 k ∧ Hid ((x.take k).any (fun y => y.toList == s.toList) = false)) (fun i => x.length - (intOf i).toNat)
  case atStart => exact ⟨0, Nat.zero_le _, rfl, by simp [Hid]⟩
  case round =>
    obtain ⟨k, hk, rfl, H⟩ := hrel
    by_cases hlt : k < x.length
    · obtain ⟨b, off, rfl, -, -, c0⟩ := HV.out.1.at hlt
      have i1 : (0 : Int) ≤ (k : Int) := by omega
      have i2 : (k : Int) < (x.length : Int) := by omega
      cases hq : (x[k].toList == s.toList)
      · have HF := Lib.hid (any_take_f hlt H.out hq)
        go_wp2
        exact ⟨⟨k+1, by omega, by go_num, HF.out⟩, by simp [intOf]; omega⟩
      · have HF : Hid (hasB x s = true) := any_at_t hlt hq
        go_wp2
        go_ret
        exact ⟨ret_bool HF.out.symm, rfl⟩
    · have HF : Hid (hasB x s = false) := by have := H.out; rwa [List.take_of_length_le (by omega)] at this
      go_wp2
      go_ret
      exact ⟨ret_bool HF.out.symm, rfl⟩
theorem hasB_mem {l : List ByteArray} {s : ByteArray} (h : s ∈ l) : hasB l s = true := by unfold hasB; rw [List.any_eq_true]; exact ⟨s, h, by simp⟩
set_option maxHeartbeats 8000000 in
set_option maxRecDepth 100000 in
theorem walk_FnSplit (w : World) (v0 : Value) (x0 : List Int) (m0 : BX w 0 w.heap.size v0 x0) (o0 : ∀ n ∈ x0, okB n) (H_MxL : MxL w) :
    Calls Tryd.prog 13 #[v0] w fun e w' => e = .returned (.bool true) ∧ Below w.heap.size w w' := by
  have HV : Hid (Ob BX w 0 w.heap.size v0 x0) := ⟨m0, Nat.le_refl _⟩
  have HM := Lib.hid H_MxL
  have HK := Lib.hid o0
  clear m0 H_MxL o0
  go_enter Tryd.func13, Tryd.ntmps13
  go_wp2_with fail
  refine (cBig HV.out).mono ?_
  rintro e w1 ⟨rfl, rfl⟩
  by_cases hbig : (4096 : Int) < x0.length
  · have hd : decide ((4096 : Int) < x0.length) = true := decide_eq_true hbig
    rw [hd]
    go_wp2
    go_ret
    exact ⟨rfl, Below.refl _ _⟩
  have hd : decide ((4096 : Int) < x0.length) = false := decide_eq_false hbig
  have hl : x0.length ≤ 4096 := by omega
  rw [hd]
  clear hd hbig
  go_wp2_with fail
  refine (cDrawSplit HV.out HK.out hl).mono ?_
  rintro e w1 ⟨s, t, rfl, hs, ht, b1⟩
  have HU1 := Lib.hid b1
  have HM1 := Lib.hid (HM.out.up b1)
  clear b1
  have hzs : s.size ≤ 1048576 := by omega
  go_wp2_with fail
  refine (cSplit (sep := t) HM1.out hzs).mono ?_
  rintro e w2 ⟨v2, rfl, ho, b2⟩
  have HU2 := Lib.hid (HU1.out.tr b2)
  have hlen := splitV_le s t
  have hj := joinB_splitV s t
  have HO := Lib.hid ho.tx
  clear ho b2 HM1 HU1
  go_wp2_with fail
  refine (cJoin (sep := t) HO.out (by omega) (by rw [hj]; omega)).mono ?_
  rintro e w3 ⟨rfl, b3⟩
  have HU3 := Lib.hid (HU2.out.tr b3)
  rw [hj]
  have hq : (s.toList == s.toList) = true := by simp
  clear b3 HO HU2 hj hlen
  go_wp2_with fail
  refine (cDrawSorted (HV.out.up HU3.out) HK.out hl).mono ?_
  rintro e w4 ⟨v4, rfl, M, ho, hMl, -, b4⟩
  have HU4 := Lib.hid (HU3.out.tr b4)
  have HM4 := Lib.hid ho.tx
  clear ho b4 HU3 hq
  go_wp2_with fail
  refine (cSorted HM4.out (by omega)).mono ?_
  rintro e w5 ⟨v5, rfl, ho, b5⟩
  have HX := Lib.hid ho.tx
  have HM5 := Lib.hid (HM4.out.up b5)
  have HU5 := Lib.hid (HU4.out.tr b5)
  have HA : Hid (Asc (setT M)) := setT_asc M
  have HE : Hid (∀ x, x ∈ setT M ↔ x ∈ M) := setT_mem M
  have hXl := setT_len M
  generalize setT M = X at *
  clear ho b5 HM4 HU4
  obtain ⟨ax, qx, rfl⟩ := HX.out.1.form
  obtain ⟨am, qm, rfl⟩ := HM5.out.1.form
  go_wp2_with fail
  go_loopw [7] (fun i wr => ∃ (k : Nat), k ≤ X.length ∧ i = .int .i64 k ∧ Up w5 wr) (fun i _ => X.length - (intOf i).toNat)
  case atStart => exact ⟨0, Nat.zero_le _, rfl, Up.rf _⟩
  case round =>
    obtain ⟨k, hk, rfl, hb⟩ := hrel
    have i1 : (0 : Int) ≤ (k : Int) := by omega
    by_cases hlt : k < X.length
    · obtain ⟨b, off, rfl, -, -, c0⟩ := (HX.out.up hb).1.at hlt
      have i2 : (k : Int) < (X.length : Int) := by omega
      have hm : hasB M X[k] = true := hasB_mem ((HE.out _).1 (List.getElem_mem hlt))
      have HMr := Lib.hid (HM5.out.up hb)
      by_cases hk0 : k = 0
      · have hd : decide ((0 : Int) < (k : Int)) = false := decide_eq_false (by omega)
        have hd2 : decide (0 < k) = false := decide_eq_false (by omega)
        clear hk0
        go_wp2_with fail
        go_quiet ((go_at_call 71; exact quiet_l (chasTL (HMr.out.up (below_drewN (Up.rf _) _)))))
        go_wp2
        exact ⟨⟨k+1, by omega, by go_num, below_drewN hb _⟩, by simp [intOf]; omega⟩
      · obtain ⟨j, rfl⟩ : ∃ j, k = j + 1 := ⟨k - 1, by omega⟩
        have hd : decide ((0 : Int) < (j : Int) + 1) = true := decide_eq_true (by omega)
        have hd2 : decide (0 < j + 1) = true := decide_eq_true (by omega)
        obtain ⟨b', off', e9, -, -, c1⟩ := (HX.out.up hb).1.at (show j < X.length by omega)
        injection e9 with e9; injection e9 with e9a e9b; subst e9a e9b
        have hw : IntKind.i64.wrap ((j : Int) + 1 - 1) = (j : Int) := by rw [show (j : Int) + 1 - 1 = j by omega]; exact IntWalk.i64_in _ (by omega)
        have i3 : (0 : Int) ≤ (j : Int) := by omega
        have i4 : (j : Int) < (X.length : Int) := by omega
        have hlt2 : Op.bytesLess X[j].toList X[j+1].toList = true := by
          have := HA.out
          unfold Asc at this
          rw [List.pairwise_iff_getElem] at this
          have h9 := this j (j + 1) (by omega) hlt (by omega)
          unfold ltS at h9
          rwa [ByteArray.toList_eq, ByteArray.toList_eq]
        clear hk0
        go_wp2_with fail
        go_quiet ((go_at_call 71; exact quiet_l (chasTL (HMr.out.up (below_drewN (Up.rf _) _)))))
        clear hw
        go_wp2
        exact ⟨⟨j+1+1, by omega, by go_num, below_drewN hb _⟩, by simp [intOf]; omega⟩
    · go_wp2_with fail
      go_loopw [8] (fun i ws => ∃ (k : Nat), k ≤ M.length ∧ i = .int .i64 k ∧ Up w5 ws) (fun i _ => M.length - (intOf i).toNat)
      case atStart => exact ⟨0, Nat.zero_le _, rfl, hb⟩
      case round =>
        clear hb
        obtain ⟨k, hk, rfl, hb⟩ := hrel
        have i1 : (0 : Int) ≤ (k : Int) := by omega
        by_cases hlt : k < M.length
        · obtain ⟨b, off, rfl, -, -, c0⟩ := (HM5.out.up hb).1.at hlt
          have i2 : (k : Int) < (M.length : Int) := by omega
          have hm : hasB X M[k] = true := hasB_mem ((HE.out _).2 (List.getElem_mem hlt))
          have HXr := Lib.hid (HX.out.up hb)
          go_wp2_with fail
          refine (chasTL HXr.out).mono ?_
          rintro e w6 ⟨rfl, rfl⟩
          rw [hm]
          go_wp2
          exact ⟨⟨k+1, by omega, by go_num, hb⟩, by simp [intOf]; omega⟩
        · go_wp2
          go_ret
          exact ⟨rfl, HU5.out.tr hb⟩
end Go.Proofs.YtbflhchmaoigdaaDoor
