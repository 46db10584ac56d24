/- The walk of the law FnAtoms: for every input the call returns true and nothing that was there has turned. -/
import Derived.Deep.DeepCutAuto
import Derived.Test.YtbflhchmaoigdaaDoorOrdA
import Derived.Test.YtbflhchmaoigdaaDoorDr2
namespace Go.Proofs.YtbflhchmaoigdaaDoor
open Go.RowKit
attribute [local go_sem ↓] Go.wp_at_zero Go.wp_at_succ
set_option linter.unusedVariables false
set_option maxHeartbeats 20000000 in
set_option maxRecDepth 100000 in
theorem walk_FnAtoms (w : World) (v0 : Value) (x0 : List Int) (m0 : BX w 0 w.heap.size v0 x0) (o0 : ∀ n ∈ x0, okB n) (H_Tabs : Tabs w) :
    Calls Tryd.prog 11 #[v0] w fun e w' => e = .returned (.bool true) ∧ Below w.heap.size w w' := by
  have HV : Hid (Ob BX w 0 w.heap.size v0 x0) := ⟨m0, Nat.le_refl _⟩
  have HT := Lib.hid H_Tabs
  have HK := Lib.hid o0
  clear m0 H_Tabs o0
  go_enter Tryd.func11, Tryd.ntmps11
  go_wp2_with fail
  refine (cBig HV.out).mono ?_
  rintro e w1 ⟨rfl, rfl⟩
  by_cases hbig : (4096 : Int) < x0.length
  · have hd : decide ((4096 : Int) < x0.length) = true := decide_eq_true hbig
    rw [hd]
    go_wp2
    go_ret
    exact ⟨rfl, Below.refl _ _⟩
  have hd : decide ((4096 : Int) < x0.length) = false := decide_eq_false hbig
  have hl : x0.length ≤ 4096 := by omega
  rw [hd]
  clear hd hbig
  go_wp2_with fail
  refine (cDrawFormatInt HV.out HK.out hl).mono ?_
  rintro e w1 ⟨n, rfl, hn, b1⟩
  obtain ⟨hn0, hn1⟩ := hn
  have HT1 := Lib.hid (HT.out.up b1)
  have HU1 := Lib.hid b1
  clear b1
  have hit := itoa_text n
  have hsz : (⟨(Lib.itoa n).toArray⟩ : ByteArray).size ≤ 1048576 := by
    have h1 : (⟨(Lib.itoa n).toArray⟩ : ByteArray).size = (Lib.itoa n).length := by simp [ByteArray.size]
    by_cases h0 : 0 ≤ n
    · obtain ⟨u, rfl⟩ : ∃ u : Nat, n = u := ⟨n.toNat, by omega⟩
      rw [h1, Lib.itoa_nonneg]
      have := dec_len 19 u (by omega)
      omega
    · obtain ⟨u, rfl⟩ : ∃ u : Nat, n = -(u : Int) := ⟨(-n).toNat, by omega⟩
      rw [h1, Lib.itoa_neg u (by omega), List.length_cons]
      have := dec_len 19 u (by omega)
      omega
  go_wp2_with fail
  refine (cFormatInt HT1.out.1 hn0 hn1).mono ?_
  rintro e w2 ⟨rfl, b2⟩
  have HT2 := Lib.hid (HT1.out.up b2)
  have HU2 := Lib.hid (HU1.out.tr b2)
  clear b2 HT1 HU1
  go_wp2_with fail
  refine (cParseInt HT2.out hsz).mono ?_
  rintro e w3 ⟨rfl, b3⟩
  have HT3 := Lib.hid (HT2.out.up b3)
  have HU3 := Lib.hid (HU2.out.tr b3)
  clear b3 HT2 HU2
  go_upto_region 5 with fail
  go_cut [4, 5, 34] (fun s4 s5 s34 wx => s34 = .bool false ∧ Up w wx)
  case first =>
    rcases hit with ⟨e1, e2, e3, e4⟩ | ⟨e1, e2⟩
    · rw [e3, e4]
      have d1 : decide ((0 : Int) ≤ n) = true := decide_eq_true e1
      have d2 : decide (n ≤ (9999 : Int)) = true := decide_eq_true e2
      go_wp2_with fail
      go_meet
      case rel => exact ⟨rfl, HU3.out⟩
    · rw [e2]
      clear hsz
      generalize numV ⟨(Lib.itoa n).toArray⟩ = q at *
      by_cases h0 : (0 : Int) ≤ n
      · have d1 : decide ((0 : Int) ≤ n) = true := decide_eq_true h0
        have d2 : decide (n ≤ (9999 : Int)) = false := decide_eq_false (by omega)
        go_wp2_with fail
        go_meet
        case rel => exact ⟨rfl, HU3.out⟩
      · have d1 : decide ((0 : Int) ≤ n) = false := decide_eq_false h0
        go_wp2_with fail
        go_meet
        case rel => exact ⟨rfl, HU3.out⟩
  case rest =>
    obtain ⟨rfl, hU⟩ := hcut
    have HUc := Lib.hid hU
    clear hU hit hsz HU3 HT3
    go_wp2_with fail
    refine (cDrawIsTerm (HV.out.up HUc.out) HK.out hl).mono ?_
    rintro e w4 ⟨s, rfl, hs, b4⟩
    have HU4 := Lib.hid (HUc.out.tr b4)
    have hz := okW_size hs
    have hzm : s.size ≤ maxLen := by unfold maxLen; omega
    have hz1 : s.size ≤ 1048576 := by omega
    have HT4 := Lib.hid (HT.out.up HU4.out)
    clear hs b4 HUc
    go_upto_region 8 with fail
    go_cut [61] (fun s61 wy => s61 = .bool false ∧ Up w wy)
    case first =>
      cases h1 : isNameB s
      · cases h2 : isVarB s
        · have h3 : isTermB s = isAtomB s := by unfold isTermB; rw [h2]; simp
          cases h4 : isAtomB s
          all_goals
            rw [h4] at h3
            go_wp2_with (first
              | (go_at_call 53; refine (name_any _ _ hzm).mono ?_; rintro e w' ⟨rfl, rfl⟩; rw [h1])
              | (go_at_call 55; refine (var_any _ _ hzm).mono ?_; rintro e w' ⟨rfl, rfl⟩; rw [h2])
              | (go_at_call 57; refine (term_any _ _ hzm).mono ?_; rintro e w' ⟨rfl, rfl⟩; rw [h3])
              | (go_at_call 56; refine (atom_any _ _ hzm).mono ?_; rintro e w' ⟨rfl, rfl⟩; rw [h4]))
            go_meet
            case rel => exact ⟨rfl, HU4.out⟩
        · have h4 := var_no_atom h2
          have h3 : isTermB s = true := by unfold isTermB; rw [h2]; simp
          go_wp2_with (first
            | (go_at_call 53; refine (name_any _ _ hzm).mono ?_; rintro e w' ⟨rfl, rfl⟩; rw [h1])
            | (go_at_call 55; refine (var_any _ _ hzm).mono ?_; rintro e w' ⟨rfl, rfl⟩; rw [h2])
            | (go_at_call 57; refine (term_any _ _ hzm).mono ?_; rintro e w' ⟨rfl, rfl⟩; rw [h3])
            | (go_at_call 56; refine (atom_any _ _ hzm).mono ?_; rintro e w' ⟨rfl, rfl⟩; rw [h4]))
          go_meet
          case rel => exact ⟨rfl, HU4.out⟩
      · have h5 := name_num h1
        have h4 : isAtomB s = true := by unfold isNameB at h1; simp only [Bool.and_eq_true] at h1; exact h1.1
        have h2 : isVarB s = false := by
          cases hq : isVarB s with
          | false => rfl
          | true => have := var_no_atom hq; rw [h4] at this; cases this
        have h3 : isTermB s = true := by unfold isTermB; rw [h4]; simp
        go_wp2_with (first
          | (go_at_call 53; refine (name_any _ _ hzm).mono ?_; rintro e w' ⟨rfl, rfl⟩; rw [h1])
          | (go_at_call 54; refine (cIsNumber HT4.out hz1).mono ?_; rintro e w5 ⟨rfl, b5⟩; rw [h5])
          | (go_at_call 55; refine (var_any _ _ hzm).mono ?_; rintro e w' ⟨rfl, rfl⟩; rw [h2])
          | (go_at_call 57; refine (term_any _ _ hzm).mono ?_; rintro e w' ⟨rfl, rfl⟩; rw [h3])
          | (go_at_call 56; refine (atom_any _ _ hzm).mono ?_; rintro e w' ⟨rfl, rfl⟩; rw [h4]))
        go_meet
        case rel => exact ⟨rfl, HU4.out.tr b5⟩
    case rest =>
      obtain ⟨rfl, hU⟩ := hcut
      have HUc := Lib.hid hU
      clear hU HU4 HT4 hz hzm hz1
      go_wp2_with fail
      refine (cDrawCmpAtoms (HV.out.up HUc.out) HK.out hl).mono ?_
      rintro e w5 ⟨a, b, rfl, ha, hb, b5⟩
      have HU5 := Lib.hid (HUc.out.tr b5)
      have za := okW_size ha
      have zb := okW_size hb
      have za1 : a.size ≤ 1048576 := by omega
      have zb1 : b.size ≤ 1048576 := by omega
      clear ha hb b5 HUc za zb
      have HT5 := Lib.hid (HT.out.up HU5.out)
      have hv : ∃ x y : Int, cmpA a b = x ∧ cmpA b a = y ∧ ((x = 0 ∧ y = 0 ∧ (a.toList == b.toList) = true) ∨ (x = 1 ∧ y = -1 ∧ (a.toList == b.toList) = false) ∨ (x = -1 ∧ y = 1 ∧ (a.toList == b.toList) = false)) := by
        have hne : a ≠ b → (a.toList == b.toList) = false := fun he => by
          cases hx : (a.toList == b.toList) with
          | false => rfl
          | true => exact absurd (str_eq_t hx) he
        rcases cmpA_vals a b with ⟨he, e1, e2⟩ | ⟨he, e1, e2⟩ | ⟨he, e1, e2⟩
        · exact ⟨_, _, e1, e2, .inl ⟨rfl, rfl, by rw [he]; simp⟩⟩
        · exact ⟨_, _, e1, e2, .inr (.inl ⟨rfl, rfl, hne he⟩)⟩
        · exact ⟨_, _, e1, e2, .inr (.inr ⟨rfl, rfl, hne he⟩)⟩
      obtain ⟨x, y, ex, ey, hv⟩ := hv
      have C1 : Hid (∀ W, Tabs W → Calls Tryd.prog 59 #[.string a, .string b] W fun e w' => e = .returned (.int .i64 x) ∧ Up W w') := fun W hT => by rw [← ex]; exact cCmpAtoms hT za1 zb1
      have C2 : Hid (∀ W, Tabs W → Calls Tryd.prog 59 #[.string b, .string a] W fun e w' => e = .returned (.int .i64 y) ∧ Up W w') := fun W hT => by rw [← ey]; exact cCmpAtoms hT zb1 za1
      clear ex ey za1 zb1
      go_wp2_with fail
      refine (C1.out _ HT5.out).mono ?_
      rintro e w6 ⟨rfl, b6⟩
      have HU6 := Lib.hid (HU5.out.tr b6)
      have HT6 := Lib.hid (HT5.out.up b6)
      clear b6 HT5 HU5
      go_wp2_with fail
      refine (C2.out _ HT6.out).mono ?_
      rintro e w7 ⟨rfl, b7⟩
      have HU7 := Lib.hid (HU6.out.tr b7)
      have HT7 := Lib.hid (HT6.out.up b7)
      clear b7 HT6 HU6
      rcases hv with ⟨rfl, rfl, hq⟩ | ⟨rfl, rfl, hq⟩ | ⟨rfl, rfl, hq⟩
      all_goals
        go_wp2_with fail
        refine (C1.out _ HT7.out).mono ?_
        rintro e w8 ⟨rfl, b8⟩
        have HU8 := Lib.hid (HU7.out.tr b8)
        clear b8
        go_wp2
        go_ret
        exact ⟨rfl, HU8.out⟩
end Go.Proofs.YtbflhchmaoigdaaDoor
