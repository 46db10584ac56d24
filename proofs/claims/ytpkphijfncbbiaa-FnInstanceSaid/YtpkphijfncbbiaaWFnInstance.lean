/- The walk of the law FnInstance: for every input the call returns true and nothing that was there has turned. -/
import Derived.Deep.DeepCutAuto
import Derived.Test.YtpkphijfncbbiaaDr2
import Derived.Test.YtpkphijfncbbiaaDrI
import Derived.Test.YtpkphijfncbbiaaPrs
import Derived.Test.YtpkphijfncbbiaaInst
import Derived.Test.YtpkphijfncbbiaaCov
import Derived.Test.YtpkphijfncbbiaaPlB
namespace Go.Proofs.Ytpkphijfncbbiaa
open Go.RowKit
attribute [local go_sem ↓] Go.wp_at_zero Go.wp_at_succ
set_option linter.unusedVariables false
set_option linter.unusedSimpArgs false
theorem tsum_le9 {L : List ByteArray} {n : Nat} (h : ∀ s ∈ L, s.size ≤ n) : tsum L ≤ L.length * n := by
  induction L with
  | nil => simp [tsum]
  | cons a r ih =>
    have h1 := ih fun s hs => h s (by simp [hs])
    have h2 := h a (by simp)
    simp only [tsum, List.length_cons, Nat.add_mul]
    omega
theorem fact_fsz {f : FactV} (h : isFactB f = true) : fsz f ≤ 1048576 := by
  have ha := isFact_arg h
  have h1 := tsum_le9 fun s hs => (isAtomB_size (ha s hs)).2
  unfold isFactB at h
  simp only [Bool.and_eq_true, decide_eq_true_eq] at h
  have h2 : isAtomB f.rel = true := by have := h.1.1; unfold isNameB at this; simp only [Bool.and_eq_true] at this; exact this.1
  have h3 := (isAtomB_size h2).2
  have h4 := h.1.2
  unfold fsz tsz
  omega
theorem ins_cov {p f : FactV} {b : Prs} (h : insV p b = some f) : coversB p f = true := by
  obtain ⟨h1, h2, h3, h4, h5⟩ := insV_law h
  refine cov_t h3 (fact_pat h2) (by rw [h4]; simp) (by rw [h5]; simp) fun i hi => ⟨fun x y hx hy ha => ?_, fun k hk he => ?_⟩
  · rw [h5, List.getElem?_map, hx] at hy
    simp only [Option.map_some, Option.some.injEq] at hy
    rw [← hy]
    unfold valS valueB
    rw [if_pos ha]; rfl
  · rw [h5, List.getElem?_map, List.getElem?_map, he]
theorem instK {vp vy : Value} {p : FactV} {y : Prs} {o : Option FactV} {lo hi lo' hi' : Nat} {w : World} (hp : Ob AF w lo hi vp p) (hy : Ob SP w lo' hi' vy y) (zp : fsz p ≤ 1048576) (zy : psz y ≤ 1048576) (hr : insV p y = o) :
    Calls Try.prog 14 #[vp, vy] w fun e w' => ∃ a c, e = .returned (.tuple #[.agg #[.string (oF o).rel, .slice a (oF o).args.length c], .bool o.isSome]) ∧ Ob AF w' w.heap.size w'.heap.size (.agg #[.string (oF o).rel, .slice a (oF o).args.length c]) (oF o) ∧ Up w w' := by
  subst hr
  refine (cInst hp hy zp zy).mono ?_
  rintro e w' ⟨v', rfl, ho, hu⟩
  obtain ⟨a, c, rfl⟩ := ho.1.form
  exact ⟨a, c, rfl, ho.af, hu⟩
theorem instKS {vp vy : Value} {p : FactV} {y : Prs} {o : Option FactV} {lo hi lo' hi' : Nat} {w : World} (hp : Ob AF w lo hi vp p) (hy : Ob SP w lo' hi' vy y) (zp : fsz p ≤ 1048576) (zy : psz y ≤ 1048576) (hr : insV p y = o) :
    Calls Try.prog 15 #[vp, vy] w fun e w' => ∃ a c, e = .returned (.tuple #[.agg #[.string (oF o).rel, .slice a (oF o).args.length c], .bool o.isSome]) ∧ Ob AF w' w.heap.size w'.heap.size (.agg #[.string (oF o).rel, .slice a (oF o).args.length c]) (oF o) ∧ Up w w' := by
  subst hr
  refine (cInstS hp hy zp zy).mono ?_
  rintro e w' ⟨v', rfl, ho, hu⟩
  obtain ⟨a, c, rfl⟩ := ho.1.form
  exact ⟨a, c, rfl, ho.af, hu⟩
theorem matchK {vp vf vx : Value} {p f : FactV} {x y : Prs} {lo hi lo' hi' lo2 hi2 : Nat} {w : World} (hp : Ob AF w lo hi vp p) (hf : Ob AF w lo' hi' vf f) (hx : Ob SP w lo2 hi2 vx x) (zp : fsz p ≤ 1048576) (zf : fsz f ≤ 1048576) (zx : psz x ≤ 1048576) (hr : mtV p f x = some y) :
    Calls Try.prog 16 #[vp, vf, vx] w fun e w' => ∃ a c, e = .returned (.tuple #[.slice a y.length c, .bool true]) ∧ Ob SP w' w.heap.size w'.heap.size (.slice a y.length c) y ∧ Up w w' := by
  refine (cMatch hp hf hx zp zf zx).mono ?_
  rintro e w' ⟨v', rfl, ho, hu⟩
  rw [hr] at ho ⊢
  obtain ⟨a, c, rfl⟩ := ho.sp.1.form
  exact ⟨a, c, rfl, ho.sp, hu⟩
theorem isFK {v : Value} {f : FactV} {lo hi : Nat} {w : World} (h : Ob AF w lo hi v f) (hf : isFactB f = true) :
    Calls Try.prog 18 #[v] w fun e w' => e = .returned (.bool true) ∧ Up w w' := by
  have := cIsFact h (fact_fsz hf)
  rwa [hf] at this
theorem covK {v u : Value} {p q : FactV} {lo hi lo' hi' : Nat} {w : World} (h : Ob AF w lo hi v p) (h' : Ob AF w lo' hi' u q) (hz : fsz p ≤ 1048576) (hz' : fsz q ≤ 1048576) (hr : coversB p q = true) :
    Calls Try.prog 10 #[v, u] w fun e w' => e = .returned (.bool true) ∧ Up w w' := by
  have := cCovers h h' hz hz'
  rwa [hr] at this
set_option maxHeartbeats 20000000 in
set_option maxRecDepth 100000 in
theorem walk_FnInstance (w : World) (v0 : Value) (x0 : List Int) (m0 : BX w 0 w.heap.size v0 x0) (o0 : ∀ n ∈ x0, okB n) :
    Calls Try.prog 4 #[v0] w fun e w' => e = .returned (.bool true) ∧ Below w.heap.size w w' := by
  have HV : Hid (Ob BX w 0 w.heap.size v0 x0) := ⟨m0, Nat.le_refl _⟩
  have HK := Lib.hid o0
  clear m0 o0
  go_enter Try.func4, Try.ntmps4
  go_wp2_with fail
  refine (cBig HV.out).mono ?_
  rintro e w1 ⟨rfl, rfl⟩
  by_cases hbig : (4096 : Int) < x0.length
  · have hd : decide ((4096 : Int) < x0.length) = true := decide_eq_true hbig
    rw [hd]
    go_wp2
    go_ret
    exact ⟨rfl, Below.refl _ _⟩
  have hd : decide ((4096 : Int) < x0.length) = false := decide_eq_false hbig
  have hl : x0.length ≤ 4096 := by omega
  rw [hd]
  clear hd hbig
  go_wp2_with fail
  refine (cDrawInst HV.out HK.out hl).mono ?_
  rintro e w1 ⟨v1, vb, rfl, p, B, ho, hob, hf, hbs, b1⟩
  have hzp := okFW_fsz hf
  have hzp1 : fsz p ≤ 1048576 := by omega
  have hzb : psz B ≤ 1048576 := by have := smallP_psz hbs; omega
  obtain ⟨oa, oc, rfl⟩ := ho.1.form
  obtain ⟨ba, bc, rfl⟩ := hob.1.form
  have hal := Up.al1 w1 (.cells #[.string p.rel, .slice oa p.args.length oc] 27)
  have HX := Lib.hid (ho.up hal)
  have HB := Lib.hid (hob.up hal)
  have HU := Lib.hid (b1.tr hal)
  have HP := Lib.hid (Blk.new w1 27 #[.string p.rel, .slice oa p.args.length oc])
  clear ho hob hf hbs b1 hal HV HK hzp
  go_upto_region 4 with fail
  generalize w1.heap.size = pp at *
  generalize (w1.alloc (.cells #[.string p.rel, .slice oa p.args.length oc] 27)) = W1 at *
  cases hr : insV p B with
  | none =>
    have HR := Lib.hid hr
    clear hr
    have k00 := HP.out.cell0; have k01 := HP.out.cell1
    go_wp2_with fail
    clear k00 k01
    refine (instK HX.out HB.out hzp1 hzb HR.out).mono ?_
    rintro e w2 ⟨fa, fc, rfl, hof, b2⟩
    simp only [Option.isSome_none]
    have hal := Up.al1 w2 (.cells #[.string (oF none).rel, .slice fa (oF none).args.length fc] 35)
    have b3 := b2.tr hal
    replace HX := Lib.hid (HX.out.up b3)
    replace HB := Lib.hid (HB.out.up b3)
    replace HP := Lib.hid (HP.out.up b3)
    replace HU := Lib.hid (HU.out.tr b3)
    have HF := Lib.hid (hof.up hal)
    have HFK := Lib.hid (Blk.new w2 35 #[.string (oF none).rel, .slice fa (oF none).args.length fc])
    clear hof b2 b3 hal
    go_upto_region 5 with fail
    generalize w2.heap.size = fp at *
    generalize (w2.alloc (.cells #[.string (oF none).rel, .slice fa (oF none).args.length fc] 35)) = W2 at *
    have k00 := HP.out.cell0; have k01 := HP.out.cell1
    go_wp2_with fail
    clear k00 k01
    refine (instKS HX.out HB.out hzp1 hzb HR.out).mono ?_
    rintro e w3 ⟨ga, gc, rfl, hog, b2⟩
    simp only [Option.isSome_none]
    have hal := Up.al1 w3 (.cells #[.string (oF none).rel, .slice ga (oF none).args.length gc] 35)
    have b3 := b2.tr hal
    replace HX := Lib.hid (HX.out.up b3)
    replace HB := Lib.hid (HB.out.up b3)
    replace HP := Lib.hid (HP.out.up b3)
    replace HF := Lib.hid (HF.out.up b3)
    replace HFK := Lib.hid (HFK.out.up b3)
    replace HU := Lib.hid (HU.out.tr b3)
    clear hog b2 b3 hal
    go_upto_region 6 with fail
    generalize (w3.alloc (.cells #[.string (oF none).rel, .slice ga (oF none).args.length gc] 35)) = W3 at *
    go_wp2
    go_ret
    exact ⟨rfl, HU.out⟩
  | some f =>
    have HR := Lib.hid hr
    obtain ⟨l1, l2, l3, l4, l5⟩ := insV_law hr
    have HC := Lib.hid (ins_cov hr)
    have HL1 := Lib.hid l1; have HL2 := Lib.hid l2
    have hzf := fact_fsz l2
    clear l1 l2 l3 l4 l5
    clear hr
    have k00 := HP.out.cell0; have k01 := HP.out.cell1
    go_wp2_with fail
    clear k00 k01
    refine (instK HX.out HB.out hzp1 hzb HR.out).mono ?_
    rintro e w2 ⟨fa, fc, rfl, hof, b2⟩
    change Ob AF w2 _ _ (.agg #[.string f.rel, .slice fa f.args.length fc]) f at hof
    simp only [oF, Option.getD_some, Option.isSome_some]
    have hal := Up.al1 w2 (.cells #[.string f.rel, .slice fa f.args.length fc] 35)
    have b3 := b2.tr hal
    replace HX := Lib.hid (HX.out.up b3)
    replace HB := Lib.hid (HB.out.up b3)
    replace HP := Lib.hid (HP.out.up b3)
    replace HU := Lib.hid (HU.out.tr b3)
    have HF := Lib.hid (hof.up hal)
    have HFK := Lib.hid (Blk.new w2 35 #[.string f.rel, .slice fa f.args.length fc])
    clear hof b2 b3 hal
    go_upto_region 5 with fail
    generalize w2.heap.size = fp at *
    generalize (w2.alloc (.cells #[.string f.rel, .slice fa f.args.length fc] 35)) = W2 at *
    have k00 := HP.out.cell0; have k01 := HP.out.cell1
    go_wp2_with fail
    clear k00 k01
    refine (instKS HX.out HB.out hzp1 hzb HR.out).mono ?_
    rintro e w3 ⟨ga, gc, rfl, hog, b2⟩
    simp only [oF, Option.getD_some, Option.isSome_some]
    have hal := Up.al1 w3 (.cells #[.string f.rel, .slice ga f.args.length gc] 35)
    have b3 := b2.tr hal
    replace HX := Lib.hid (HX.out.up b3)
    replace HB := Lib.hid (HB.out.up b3)
    replace HP := Lib.hid (HP.out.up b3)
    replace HF := Lib.hid (HF.out.up b3)
    replace HFK := Lib.hid (HFK.out.up b3)
    replace HU := Lib.hid (HU.out.tr b3)
    clear hog b2 b3 hal
    go_upto_region 6 with fail
    generalize (w3.alloc (.cells #[.string f.rel, .slice ga f.args.length gc] 35)) = W3 at *
    have k00 := HP.out.cell0; have k01 := HP.out.cell1
    have k10 := HFK.out.cell0; have k11 := HFK.out.cell1
    go_wp2_with fail
    clear k00 k01 k10 k11
    refine (matchK HX.out HF.out HB.out hzp1 hzf hzb HL1.out).mono ?_
    rintro e w4 ⟨xa, xc, rfl, hox, b2⟩
    replace HX := Lib.hid (HX.out.up b2)
    replace HB := Lib.hid (HB.out.up b2)
    replace HP := Lib.hid (HP.out.up b2)
    replace HF := Lib.hid (HF.out.up b2)
    replace HFK := Lib.hid (HFK.out.up b2)
    replace HU := Lib.hid (HU.out.tr b2)
    have HY := Lib.hid hox
    clear hox b2
    have k00 := HP.out.cell0; have k01 := HP.out.cell1
    have k10 := HFK.out.cell0; have k11 := HFK.out.cell1
    go_wp2_with fail
    clear k00 k01 k10 k11
    refine (cPairsEq HY.out HB.out).mono ?_
    rintro e w5 ⟨rfl, b2⟩
    replace HX := Lib.hid (HX.out.up b2)
    replace HB := Lib.hid (HB.out.up b2)
    replace HP := Lib.hid (HP.out.up b2)
    replace HF := Lib.hid (HF.out.up b2)
    replace HFK := Lib.hid (HFK.out.up b2)
    replace HY := Lib.hid (HY.out.up b2)
    replace HU := Lib.hid (HU.out.tr b2)
    clear b2
    have k00 := HP.out.cell0; have k01 := HP.out.cell1
    have k10 := HFK.out.cell0; have k11 := HFK.out.cell1
    go_wp2_with fail
    clear k00 k01 k10 k11
    refine (isFK HF.out HL2.out).mono ?_
    rintro e w6 ⟨rfl, b2⟩
    replace HX := Lib.hid (HX.out.up b2)
    replace HB := Lib.hid (HB.out.up b2)
    replace HP := Lib.hid (HP.out.up b2)
    replace HF := Lib.hid (HF.out.up b2)
    replace HFK := Lib.hid (HFK.out.up b2)
    replace HY := Lib.hid (HY.out.up b2)
    replace HU := Lib.hid (HU.out.tr b2)
    clear b2
    have k00 := HP.out.cell0; have k01 := HP.out.cell1
    have k10 := HFK.out.cell0; have k11 := HFK.out.cell1
    go_wp2_with fail
    clear k00 k01 k10 k11
    refine (covK HX.out HF.out hzp1 hzf HC.out).mono ?_
    rintro e w7 ⟨rfl, b2⟩
    replace HX := Lib.hid (HX.out.up b2)
    replace HB := Lib.hid (HB.out.up b2)
    replace HP := Lib.hid (HP.out.up b2)
    replace HF := Lib.hid (HF.out.up b2)
    replace HFK := Lib.hid (HFK.out.up b2)
    replace HY := Lib.hid (HY.out.up b2)
    replace HU := Lib.hid (HU.out.tr b2)
    clear b2
    go_wp2
    go_ret
    exact ⟨rfl, HU.out⟩
end Go.Proofs.Ytpkphijfncbbiaa
