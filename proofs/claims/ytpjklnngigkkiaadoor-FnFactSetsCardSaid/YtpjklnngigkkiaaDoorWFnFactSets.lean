/- The walk of the law FnFactSets: for every input the call returns true and nothing that was there has turned. -/
import Derived.Deep.DeepCutAuto
import Derived.Test.YtpjklnngigkkiaaDoorDr2
import Derived.Test.YtpjklnngigkkiaaDoorDr8
import Derived.Test.YtpjklnngigkkiaaDoorRemF
import Derived.Test.YtpjklnngigkkiaaDoorPlS
namespace Go.Proofs.YtpjklnngigkkiaaDoor
open Go.RowKit
attribute [local go_sem ↓] Go.wp_at_zero Go.wp_at_succ
set_option linter.unusedVariables false
theorem addV_small (x : List FactV) (f : FactV) : fssz (addV x f) ≤ fssz x + fsz f + 1 := by
  have h3 := fsum_putF x f
  have h4 := putF_le x f
  unfold addV
  split
  · unfold fssz; omega
  · omega
theorem remV_small (x : List FactV) (f : FactV) : fssz (remV x f) ≤ fssz x := by
  have h3 : fssz (rmF x f) ≤ fssz x := fssz_filter _ x
  unfold remV
  split <;> omega
theorem addK {v u : Value} {x M : List FactV} {f : FactV} {b : Bool} {lo hi lo' hi' : Nat} {w : World} (hT : Tabs w) (h : Ob SF w lo hi v x) (h' : Ob AF w lo' hi' u f) (hz : fssz x ≤ 1048576) (hzf : fsz f ≤ 1048576) (hM : addV x f = M) (hb : addOk x f = b) :
    Calls Tryd.prog 17 #[v, u] w fun e w' => ∃ a c, e = .returned (.tuple #[.slice a M.length c, .bool b]) ∧ Ob SF w' w.heap.size w'.heap.size (.slice a M.length c) M ∧ Up w w' := by
  subst hM hb
  refine (cAddFact hT h h' hz hzf).mono ?_
  rintro e w' ⟨u, rfl, ho, hu⟩
  obtain ⟨a, c, rfl⟩ := ho.sf.1.form
  exact ⟨a, c, rfl, ho.sf, hu⟩
theorem remK {v u : Value} {x M : List FactV} {f : FactV} {b : Bool} {lo hi lo' hi' : Nat} {w : World} (hT : Tabs w) (h : Ob SF w lo hi v x) (h' : Ob AF w lo' hi' u f) (hz : fssz x ≤ 1048576) (hzf : fsz f ≤ 1048576) (hM : remV x f = M) (hb : remOk x f = b) :
    Calls Tryd.prog 46 #[v, u] w fun e w' => ∃ a c, e = .returned (.tuple #[.slice a M.length c, .bool b]) ∧ Ob SF w' w.heap.size w'.heap.size (.slice a M.length c) M ∧ Up w w' := by
  subst hM hb
  refine (cRemFact hT h h' hz hzf).mono ?_
  rintro e w' ⟨u, rfl, ho, hu⟩
  obtain ⟨a, c, rfl⟩ := ho.sf.1.form
  exact ⟨a, c, rfl, ho.sf, hu⟩
theorem sameK {v v' : Value} {x : List FactV} {lo hi lo' hi' : Nat} {w : World} (h : Ob SF w lo hi v x) (h' : Ob SF w lo' hi' v' x) :
    Calls Tryd.prog 39 #[v, v'] w fun e w' => e = .returned (.bool true) ∧ Up w w' := by
  have := cSameFactsS h h'
  rwa [sameFsB_refl] at this
theorem areK {v : Value} {x : List FactV} {b : Bool} {lo hi : Nat} {w : World} (hT : Tabs w) (h : Ob SF w lo hi v x) (hz : fssz x ≤ 1048576) (hb : areFB x = b) :
    Calls Tryd.prog 44 #[v] w fun e w' => e = .returned (.bool b) ∧ Up w w' := by
  subst hb
  exact cAreFacts hT h hz
theorem findK {v u : Value} {x : List FactV} {f : FactV} {q : Int} {lo hi lo' hi' : Nat} {w : World} (h : Ob SF w lo hi v x) (h' : Ob AF w lo' hi' u f) (hq : findB x f = q) :
    Calls Tryd.prog 47 #[v, u] w fun e w' => e = .returned (.int .i64 q) ∧ Up w w' := by
  subst hq
  exact cFindFact h h'
set_option maxHeartbeats 20000000 in
set_option maxRecDepth 100000 in
theorem walk_FnFactSets (w : World) (v0 : Value) (x0 : List Int) (m0 : BX w 0 w.heap.size v0 x0) (o0 : ∀ n ∈ x0, okB n) (H_Tabs : Tabs w) :
    Calls Tryd.prog 9 #[v0] w fun e w' => e = .returned (.bool true) ∧ Below w.heap.size w w' := by
  have HV : Hid (Ob BX w 0 w.heap.size v0 x0) := ⟨m0, Nat.le_refl _⟩
  have HT := Lib.hid H_Tabs
  have HK := Lib.hid o0
  clear m0 H_Tabs o0
  go_enter Tryd.func9, Tryd.ntmps9
  go_wp2_with fail
  refine (cBig HV.out).mono ?_
  rintro e w1 ⟨rfl, rfl⟩
  by_cases hbig : (4096 : Int) < x0.length
  · have hd : decide ((4096 : Int) < x0.length) = true := decide_eq_true hbig
    rw [hd]
    go_wp2
    go_ret
    exact ⟨rfl, Below.refl _ _⟩
  have hd : decide ((4096 : Int) < x0.length) = false := decide_eq_false hbig
  have hl : x0.length ≤ 4096 := by omega
  rw [hd]
  clear hd hbig
  go_wp2_with fail
  refine (cDrawAdd (HV.out.up (Up.rf w)) HK.out hl).mono ?_
  rintro e w1 ⟨v1, u1, rfl, M, f, ho, hof, hM, hzf, b1⟩
  obtain ⟨oa, oc, rfl⟩ := hof.1.form
  obtain ⟨ma, mc, rfl⟩ := ho.1.form
  have hzM := smallFs_z hM
  have hml := hM.1
  have hal := Up.al1 w1 (.cells #[.string f.rel, .slice oa f.args.length oc] 32)
  have HS := Lib.hid (ho.up hal)
  have HF := Lib.hid (hof.up hal)
  have HB := Lib.hid (Blk.new w1 32 #[.string f.rel, .slice oa f.args.length oc])
  have HU := Lib.hid (((Up.rf w)).tr (b1.tr hal))
  clear ho hof hM b1 hal
  go_upto_region 4 with fail
  generalize hpb : w1.heap.size = pb at *
  generalize (w1.alloc (.cells #[.string f.rel, .slice oa f.args.length oc] 32)) = W1 at *
  have HTb := Lib.hid (HT.out.up HU.out)
  clear hpb
  have k0 := HB.out.cell0
  have k1 := HB.out.cell1
  have zM : fssz M ≤ 1048576 := by omega
  have zf : fsz f ≤ 1048576 := by omega
  have zX : fssz (addV M f) ≤ 1048576 := by have := addV_small M f; omega
  have LA := fun h : addOk M f = true => add_law h
  have LV := fun h : addOk M f = true => addV_t h
  generalize hX : addV M f = X at *
  generalize hok : addOk M f = ok at *
  have HLA := Lib.hid LA
  have HLV := Lib.hid LV
  clear LA LV
  go_wp2_with fail
  refine (addK HTb.out HS.out HF.out zM zf hX hok).mono ?_
  rintro e w2 ⟨xa, xc, rfl, hx, b2⟩
  have HX := Lib.hid hx
  clear hx
  replace HS := Lib.hid (HS.out.up b2)
  replace HF := Lib.hid (HF.out.up b2)
  replace HB := Lib.hid (HB.out.up b2)
  replace HTb := Lib.hid (HTb.out.up b2)
  replace HU := Lib.hid (HU.out.tr b2)
  clear b2 k0 k1
  have k0 := HB.out.cell0
  have k1 := HB.out.cell1
  clear hX hok
  go_upto_if 28 with fail
  go_cut [5, 6, 7] from 15 to 98 (fun s5 s6 s7 wx => Up w wx)
  case first =>
    cases ok
    · clear k0 k1 HLA HLV
      go_wp2_with fail
      go_meet
      case rel => exact HU.out
    · obtain ⟨l1, l2, l3, l4, l5⟩ := HLA.out (by simp)
      rw [← HLV.out (by simp)] at l1 l2 l3 l4 l5
      clear HLA HLV
      generalize hq : findB X f = q at *
      have hd1 : decide (q < 0) = false := decide_eq_false (by omega)
      have i1 : (M.length : Int) ≤ 31 := by omega
      have i2 : (0 : Int) ≤ (M.length : Int) := by omega
      rw [l3] at HX ⊢
      go_wp2_with fail
      refine (remK HTb.out HX.out HF.out zX zf l5 l4).mono ?_
      rintro e w3 ⟨ya, yc, rfl, hy, b3⟩
      have HY := Lib.hid hy
      clear hy
      replace HS := Lib.hid (HS.out.up b3)
      replace HF := Lib.hid (HF.out.up b3)
      replace HB := Lib.hid (HB.out.up b3)
      replace HTb := Lib.hid (HTb.out.up b3)
      replace HX := Lib.hid (HX.out.up b3)
      replace HU := Lib.hid (HU.out.tr b3)
      clear b3 k0 k1
      have k0 := HB.out.cell0
      have k1 := HB.out.cell1
      go_wp2_with fail
      refine (sameK HY.out HS.out).mono ?_
      rintro e w4 ⟨rfl, b4⟩
      replace HS := Lib.hid (HS.out.up b4)
      replace HF := Lib.hid (HF.out.up b4)
      replace HB := Lib.hid (HB.out.up b4)
      replace HTb := Lib.hid (HTb.out.up b4)
      replace HX := Lib.hid (HX.out.up b4)
      replace HU := Lib.hid (HU.out.tr b4)
      clear b4 k0 k1
      have k0 := HB.out.cell0
      have k1 := HB.out.cell1
      go_wp2_with fail
      refine (areK HTb.out HX.out zX l1).mono ?_
      rintro e w5 ⟨rfl, b5⟩
      replace HS := Lib.hid (HS.out.up b5)
      replace HF := Lib.hid (HF.out.up b5)
      replace HB := Lib.hid (HB.out.up b5)
      replace HTb := Lib.hid (HTb.out.up b5)
      replace HX := Lib.hid (HX.out.up b5)
      replace HU := Lib.hid (HU.out.tr b5)
      clear b5 k0 k1
      have k0 := HB.out.cell0
      have k1 := HB.out.cell1
      go_wp2_with fail
      refine (findK HX.out HF.out hq).mono ?_
      rintro e w6 ⟨rfl, b6⟩
      replace HS := Lib.hid (HS.out.up b6)
      replace HF := Lib.hid (HF.out.up b6)
      replace HB := Lib.hid (HB.out.up b6)
      replace HTb := Lib.hid (HTb.out.up b6)
      replace HX := Lib.hid (HX.out.up b6)
      replace HU := Lib.hid (HU.out.tr b6)
      clear b6 k0 k1
      have k0 := HB.out.cell0
      have k1 := HB.out.cell1
      clear k0 k1
      go_wp2_with fail
      go_meet
      case rel => exact HU.out
  case rest =>
    have HUc := Lib.hid hcut
    clear hcut HS HF HB HX HU HTb k0 k1 HLA HLV zX zM zf hzM hml hzf
    go_wp2_with fail
    refine (cDrawRem (HV.out.up HUc.out) HK.out hl).mono ?_
    rintro e w1 ⟨v1, u1, rfl, M, f, ho, hof, hM, hzf, b1⟩
    obtain ⟨oa, oc, rfl⟩ := hof.1.form
    obtain ⟨ma, mc, rfl⟩ := ho.1.form
    have hzM := smallFs_z hM
    have hml := hM.1
    have hal := Up.al1 w1 (.cells #[.string f.rel, .slice oa f.args.length oc] 32)
    have HS := Lib.hid (ho.up hal)
    have HF := Lib.hid (hof.up hal)
    have HB := Lib.hid (Blk.new w1 32 #[.string f.rel, .slice oa f.args.length oc])
    have HU := Lib.hid ((HUc.out).tr (b1.tr hal))
    clear ho hof hM b1 hal
    go_upto_region 10 with fail
    generalize hpb : w1.heap.size = pb at *
    generalize (w1.alloc (.cells #[.string f.rel, .slice oa f.args.length oc] 32)) = W1 at *
    have HTb := Lib.hid (HT.out.up HU.out)
    clear hpb
    have k0 := HB.out.cell0
    have k1 := HB.out.cell1
    have zM : fssz M ≤ 1048576 := by omega
    have zf : fsz f ≤ 1048576 := by omega
    have zX : fssz (remV M f) ≤ 1048576 := by have := remV_small M f; omega
    have LA := fun h : remOk M f = true => rem_law h
    have LV := fun h : remOk M f = true => remV_t h
    have LF := fun h : remOk M f = false => remV_f h
    generalize hX : remV M f = X at *
    generalize hok : remOk M f = ok at *
    have HLA := Lib.hid LA
    have HLV := Lib.hid LV
    have HLF := Lib.hid LF
    clear LA LV LF
    go_wp2_with fail
    refine (remK HTb.out HS.out HF.out zM zf hX hok).mono ?_
    rintro e w2 ⟨xa, xc, rfl, hx, b2⟩
    have HX := Lib.hid hx
    clear hx
    replace HS := Lib.hid (HS.out.up b2)
    replace HF := Lib.hid (HF.out.up b2)
    replace HB := Lib.hid (HB.out.up b2)
    replace HTb := Lib.hid (HTb.out.up b2)
    replace HU := Lib.hid (HU.out.tr b2)
    clear b2 k0 k1
    have k0 := HB.out.cell0
    have k1 := HB.out.cell1
    clear hX hok
    cases ok
    · have hxm := HLF.out (by simp)
      subst hxm
      clear HLA HLV HLF k0 k1
      go_wp2_with fail
      refine (sameK HX.out HS.out).mono ?_
      rintro e w3 ⟨rfl, b3⟩
      replace HU := Lib.hid (HU.out.tr b3)
      clear b3
      go_wp2
      go_ret
      exact ⟨rfl, HU.out⟩
    · obtain ⟨l1, l2, l3, l4⟩ := HLA.out (by simp)
      rw [← HLV.out (by simp)] at l1 l2 l3 l4
      clear HLA HLV HLF
      generalize hq : findB X f = q at *
      have hd1 : decide (q < 0) = true := decide_eq_true l2
      go_wp2_with fail
      refine (addK HTb.out HX.out HF.out zX zf l4 l3).mono ?_
      rintro e w3 ⟨ya, yc, rfl, hy, b3⟩
      have HY := Lib.hid hy
      clear hy
      replace HS := Lib.hid (HS.out.up b3)
      replace HF := Lib.hid (HF.out.up b3)
      replace HB := Lib.hid (HB.out.up b3)
      replace HTb := Lib.hid (HTb.out.up b3)
      replace HX := Lib.hid (HX.out.up b3)
      replace HU := Lib.hid (HU.out.tr b3)
      clear b3 k0 k1
      have k0 := HB.out.cell0
      have k1 := HB.out.cell1
      go_wp2_with fail
      refine (sameK HY.out HS.out).mono ?_
      rintro e w4 ⟨rfl, b4⟩
      replace HS := Lib.hid (HS.out.up b4)
      replace HF := Lib.hid (HF.out.up b4)
      replace HB := Lib.hid (HB.out.up b4)
      replace HTb := Lib.hid (HTb.out.up b4)
      replace HX := Lib.hid (HX.out.up b4)
      replace HU := Lib.hid (HU.out.tr b4)
      clear b4 k0 k1
      have k0 := HB.out.cell0
      have k1 := HB.out.cell1
      go_wp2_with fail
      refine (areK HTb.out HX.out zX l1).mono ?_
      rintro e w5 ⟨rfl, b5⟩
      replace HS := Lib.hid (HS.out.up b5)
      replace HF := Lib.hid (HF.out.up b5)
      replace HB := Lib.hid (HB.out.up b5)
      replace HTb := Lib.hid (HTb.out.up b5)
      replace HX := Lib.hid (HX.out.up b5)
      replace HU := Lib.hid (HU.out.tr b5)
      clear b5 k0 k1
      have k0 := HB.out.cell0
      have k1 := HB.out.cell1
      go_wp2_with fail
      refine (findK HX.out HF.out hq).mono ?_
      rintro e w6 ⟨rfl, b6⟩
      replace HU := Lib.hid (HU.out.tr b6)
      clear b6 k0 k1
      go_wp2
      go_ret
      exact ⟨rfl, HU.out⟩
end Go.Proofs.YtpjklnngigkkiaaDoor
