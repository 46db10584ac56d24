/- The walk of the law FnMatched: for every input the call returns true and nothing that was there has turned. -/
import Derived.Deep.DeepCutAuto
import Derived.Test.YtpkphijfncbbiaaDr2
import Derived.Test.YtpkphijfncbbiaaDrM
import Derived.Test.YtpkphijfncbbiaaPrs
import Derived.Test.YtpkphijfncbbiaaInst
import Derived.Test.YtpkphijfncbbiaaCmpF
import Derived.Test.YtpkphijfncbbiaaOrdA
import Derived.Test.YtpkphijfncbbiaaVars
import Derived.Test.YtpkphijfncbbiaaRes
import Derived.Test.YtpkphijfncbbiaaPlB
namespace Go.Proofs.Ytpkphijfncbbiaa
open Go.RowKit
attribute [local go_sem ↓] Go.wp_at_zero Go.wp_at_succ
set_option linter.unusedVariables false
set_option linter.unusedSimpArgs false
theorem cmpL_self (l : List ByteArray) : cmpL l l = 0 := by
  induction l with
  | nil => unfold cmpL; rfl
  | cons a r ih => unfold cmpL; rw [if_pos (ord_A.self a), ih]
theorem cmpF_self (f : FactV) : cmpF f f = 0 := by unfold cmpF; rw [if_pos (ord_S.self _), cmpL_self]
theorem instK {vp vy : Value} {p f : FactV} {y : Prs} {lo hi lo' hi' : Nat} {w : World} (hp : Ob AF w lo hi vp p) (hy : Ob SP w lo' hi' vy y) (zp : fsz p ≤ 300) (zy : psz y ≤ 1048576) (hr : insV p y = some f) :
    Calls Try.prog 14 #[vp, vy] w fun e w' => ∃ a c, e = .returned (.tuple #[.agg #[.string f.rel, .slice a f.args.length c], .bool true]) ∧ Ob AF w' w.heap.size w'.heap.size (.agg #[.string f.rel, .slice a f.args.length c]) f ∧ Up w w' := by
  refine (cInst hp hy (by omega) zy).mono ?_
  rintro e w' ⟨v', rfl, ho, hu⟩
  rw [hr] at ho ⊢
  obtain ⟨a, c, rfl⟩ := ho.1.form
  exact ⟨a, c, rfl, ho.af, hu⟩
theorem matchK {vp vf vx : Value} {p f : FactV} {x : Prs} {o : Option Prs} {lo hi lo' hi' lo2 hi2 : Nat} {w : World} (hp : Ob AF w lo hi vp p) (hf : Ob AF w lo' hi' vf f) (hx : Ob SP w lo2 hi2 vx x) (zp : fsz p ≤ 300) (zf : fsz f ≤ 300) (zx : psz x ≤ 1048576) (hr : mtV p f x = o) :
    Calls Try.prog 16 #[vp, vf, vx] w fun e w' => ∃ a c, e = .returned (.tuple #[.slice a (oL o).length c, .bool o.isSome]) ∧ Ob SP w' w.heap.size w'.heap.size (.slice a (oL o).length c) (oL o) ∧ Up w w' := by
  subst hr
  refine (cMatch hp hf hx (by omega) (by omega) zx).mono ?_
  rintro e w' ⟨v', rfl, ho, hu⟩
  obtain ⟨a, c, rfl⟩ := ho.sp.1.form
  exact ⟨a, c, rfl, ho.sp, hu⟩
theorem matchKS {vp vf vx : Value} {p f : FactV} {x : Prs} {o : Option Prs} {lo hi lo' hi' lo2 hi2 : Nat} {w : World} (hp : Ob AF w lo hi vp p) (hf : Ob AF w lo' hi' vf f) (hx : Ob SP w lo2 hi2 vx x) (zp : fsz p ≤ 300) (zf : fsz f ≤ 300) (zx : psz x ≤ 1048576) (hr : mtV p f x = o) :
    Calls Try.prog 27 #[vp, vf, vx] w fun e w' => ∃ a c, e = .returned (.tuple #[.slice a (oL o).length c, .bool o.isSome]) ∧ Up w w' := by
  subst hr
  refine (cMatchS hp hf hx (by omega) (by omega) zx).mono ?_
  rintro e w' ⟨v', rfl, ho, hu⟩
  obtain ⟨a, c, rfl⟩ := ho.sp.1.form
  exact ⟨a, c, rfl, hu⟩
theorem cmpKS {v u : Value} {f : FactV} {lo hi lo' hi' : Nat} {w : World} (h : Ob AF w lo hi v f) (h' : Ob AF w lo' hi' u f) (hz : fsz f ≤ 300) :
    Calls Try.prog 28 #[v, u] w fun e w' => e = .returned (.int .i64 0) ∧ Up w w' := by
  have := cCmpFactsS h h' (by omega) (by omega)
  rwa [cmpF_self] at this
theorem isBK {v : Value} {x : Prs} {lo hi : Nat} {w : World} (h : Ob SP w lo hi v x) (hz : psz x ≤ 1048576) (hr : isBindB x = true) :
    Calls Try.prog 29 #[v] w fun e w' => e = .returned (.bool true) ∧ Up w w' := by
  have := cIsBinding h hz
  rwa [hr] at this
theorem valK {v : Value} {x : Prs} {t s : ByteArray} {lo hi : Nat} {w : World} (h : Ob SP w lo hi v x) (hz : t.size ≤ 30) (hs : valOk x t = true ∧ valS x t = s) :
    Calls Try.prog 31 #[v, .string t] w fun e w' => e = .returned (.tuple #[.string s, .bool true]) ∧ Up w w' := by
  have := cValueOf h (t := t) (by omega)
  rwa [hs.1, hs.2] at this
theorem resK {v u : Value} {x : Prs} {l : List ByteArray} {lo hi lo' hi' : Nat} {w : World} (h : Ob SP w lo hi v x) (h' : Ob TX w lo' hi' u l) (hz : psz x ≤ 1048576) (hr : resP x l = x) :
    Calls Try.prog 32 #[v, u] w fun e w' => ∃ v', e = .returned v' ∧ Ob SP w' w.heap.size w'.heap.size v' x ∧ Up w w' := by
  refine (cRestrict h h' hz).mono ?_
  rintro e w' ⟨v', rfl, ho, hu⟩
  rw [hr] at ho
  exact ⟨v', rfl, ho.sp, hu⟩
set_option maxHeartbeats 20000000 in
set_option maxRecDepth 100000 in
theorem walk_FnMatched (w : World) (v0 : Value) (x0 : List Int) (m0 : BX w 0 w.heap.size v0 x0) (o0 : ∀ n ∈ x0, okB n) :
    Calls Try.prog 6 #[v0] w fun e w' => e = .returned (.bool true) ∧ Below w.heap.size w w' := by
  have HV : Hid (Ob BX w 0 w.heap.size v0 x0) := ⟨m0, Nat.le_refl _⟩
  have HK := Lib.hid o0
  clear m0 o0
  obtain ⟨i0, hi0, hz0, hz1, hz2⟩ := info_parts Try.infoStr
  go_enter Try.func6, Try.ntmps6
  go_wp2_with fail
  refine (cBig HV.out).mono ?_
  rintro e w1 ⟨rfl, rfl⟩
  by_cases hbig : (4096 : Int) < x0.length
  · have hd : decide ((4096 : Int) < x0.length) = true := decide_eq_true hbig
    rw [hd]
    go_wp2
    go_ret
    exact ⟨rfl, Below.refl _ _⟩
  have hd : decide ((4096 : Int) < x0.length) = false := decide_eq_false hbig
  have hl : x0.length ≤ 4096 := by omega
  rw [hd]
  clear hd hbig
  go_wp2_with fail
  refine (cDrawMatch HV.out HK.out hl).mono ?_
  rintro e w1 ⟨v1, vf, vb, rfl, p, f, B, ho, hof, hob, hzp, hzf, hbs, b1⟩
  have hzb : psz B ≤ 1048576 := by have := smallP_psz hbs; omega
  have hbl : B.length ≤ 7 := hbs.1
  have HB30 : Hid (∀ q ∈ B, q.1.size ≤ 30) := fun q hq => (hbs.2 q hq).1
  obtain ⟨oa, oc, rfl⟩ := ho.1.form
  obtain ⟨fa, fc, rfl⟩ := hof.1.form
  obtain ⟨ba, bc, rfl⟩ := hob.1.form
  have hal : Up w1 ((w1.alloc (.cells #[.string p.rel, .slice oa p.args.length oc] 27)).alloc (.cells #[.string f.rel, .slice fa f.args.length fc] 35)) := (Up.al1 _ _).al _
  have HX := Lib.hid (ho.up hal); have HF := Lib.hid (hof.up hal); have HB := Lib.hid (hob.up hal)
  have HU := Lib.hid (b1.tr hal)
  have HXK := Lib.hid (show Blk ((w1.alloc (.cells #[.string p.rel, .slice oa p.args.length oc] 27)).alloc (.cells #[.string f.rel, .slice fa f.args.length fc] 35)) w1.heap.size 27 #[.string p.rel, .slice oa p.args.length oc] from (Blk.new w1 27 #[.string p.rel, .slice oa p.args.length oc]).alloc _)
  have HFK := Lib.hid (show Blk ((w1.alloc (.cells #[.string p.rel, .slice oa p.args.length oc] 27)).alloc (.cells #[.string f.rel, .slice fa f.args.length fc] 35)) (w1.heap.size + 1) 35 #[.string f.rel, .slice fa f.args.length fc] from by have := Blk.new (w1.alloc (.cells #[.string p.rel, .slice oa p.args.length oc] 27)) 35 #[.string f.rel, .slice fa f.args.length fc]; simpa using this)
  clear ho hof hob hbs b1 hal HV HK
  go_upto_region 4 with fail
  generalize w1.heap.size = pp at *
  generalize ((w1.alloc (.cells #[.string p.rel, .slice oa p.args.length oc] 27)).alloc (.cells #[.string f.rel, .slice fa f.args.length fc] 35)) = W1 at *
  cases hr : mtV p f B with
  | none =>
    have HR := Lib.hid hr
    clear hr
    have k00 := HXK.out.cell0; have k01 := HXK.out.cell1
    have k10 := HFK.out.cell0; have k11 := HFK.out.cell1
    go_wp2_with fail
    clear k00 k01 k10 k11
    refine (matchK HX.out HF.out HB.out hzp hzf hzb HR.out).mono ?_
    rintro e w9 ⟨xa, xc, rfl, -, b9⟩
    replace HX := Lib.hid (HX.out.up b9)
    replace HF := Lib.hid (HF.out.up b9)
    replace HB := Lib.hid (HB.out.up b9)
    replace HXK := Lib.hid (HXK.out.up b9)
    replace HFK := Lib.hid (HFK.out.up b9)
    replace HU := Lib.hid (HU.out.tr b9)
    clear b9
    simp only [oL, Option.getD_none, Option.isSome_none]
    have k00 := HXK.out.cell0; have k01 := HXK.out.cell1
    have k10 := HFK.out.cell0; have k11 := HFK.out.cell1
    go_wp2_with fail
    clear k00 k01 k10 k11
    refine (matchKS HX.out HF.out HB.out hzp hzf hzb HR.out).mono ?_
    rintro e w9 ⟨ya, yc, rfl, b9⟩
    replace HX := Lib.hid (HX.out.up b9)
    replace HF := Lib.hid (HF.out.up b9)
    replace HB := Lib.hid (HB.out.up b9)
    replace HXK := Lib.hid (HXK.out.up b9)
    replace HFK := Lib.hid (HFK.out.up b9)
    replace HU := Lib.hid (HU.out.tr b9)
    clear b9
    simp only [oL, Option.getD_none, Option.isSome_none]
    go_wp2
    go_ret
    exact ⟨rfl, HU.out⟩
  | some x =>
    obtain ⟨l1, l2, l3, l4, l5⟩ := mtV_law hr
    have hzx : psz x ≤ 1048576 := by have := mtV_psz hr; omega
    have HR := Lib.hid hr; have HL1 := Lib.hid l1; have HL2 := Lib.hid l2; have HL3 := Lib.hid l3; have HL4 := Lib.hid l4; have HL5 := Lib.hid l5
    clear hr l1 l2 l3 l4 l5
    have k00 := HXK.out.cell0; have k01 := HXK.out.cell1
    have k10 := HFK.out.cell0; have k11 := HFK.out.cell1
    go_wp2_with fail
    clear k00 k01 k10 k11
    refine (matchK HX.out HF.out HB.out hzp hzf hzb HR.out).mono ?_
    rintro e w9 ⟨xa, xc, rfl, hox, b9⟩
    replace HX := Lib.hid (HX.out.up b9)
    replace HF := Lib.hid (HF.out.up b9)
    replace HB := Lib.hid (HB.out.up b9)
    replace HXK := Lib.hid (HXK.out.up b9)
    replace HFK := Lib.hid (HFK.out.up b9)
    replace HU := Lib.hid (HU.out.tr b9)
    have HY := Lib.hid hox
    clear hox
    clear b9
    simp only [oL, Option.getD_some, Option.isSome_some] at HY ⊢
    have k00 := HXK.out.cell0; have k01 := HXK.out.cell1
    have k10 := HFK.out.cell0; have k11 := HFK.out.cell1
    go_wp2_with fail
    clear k00 k01 k10 k11
    refine (matchKS HX.out HF.out HB.out hzp hzf hzb HR.out).mono ?_
    rintro e w9 ⟨ya, yc, rfl, b9⟩
    replace HX := Lib.hid (HX.out.up b9)
    replace HF := Lib.hid (HF.out.up b9)
    replace HB := Lib.hid (HB.out.up b9)
    replace HXK := Lib.hid (HXK.out.up b9)
    replace HFK := Lib.hid (HFK.out.up b9)
    replace HY := Lib.hid (HY.out.up b9)
    replace HU := Lib.hid (HU.out.tr b9)
    clear b9
    simp only [oL, Option.getD_some, Option.isSome_some]
    have k00 := HXK.out.cell0; have k01 := HXK.out.cell1
    have k10 := HFK.out.cell0; have k11 := HFK.out.cell1
    go_wp2_with fail
    clear k00 k01 k10 k11
    refine (instK HX.out HY.out hzp hzx HL1.out).mono ?_
    rintro e w9 ⟨ga, gc, rfl, hog, b9⟩
    have b8 := b9.al (.cells #[.string f.rel, .slice ga f.args.length gc] 35)
    replace HX := Lib.hid (HX.out.up b8)
    replace HF := Lib.hid (HF.out.up b8)
    replace HB := Lib.hid (HB.out.up b8)
    replace HXK := Lib.hid (HXK.out.up b8)
    replace HFK := Lib.hid (HFK.out.up b8)
    replace HY := Lib.hid (HY.out.up b8)
    replace HU := Lib.hid (HU.out.tr b8)
    have HG := Lib.hid (hog.up (Up.al1 w9 (.cells #[.string f.rel, .slice ga f.args.length gc] 35)))
    have HGK := Lib.hid (Blk.new w9 35 #[.string f.rel, .slice ga f.args.length gc])
    clear hog b9 b8
    go_upto_region 11 with fail
    generalize w9.heap.size = gp at *
    generalize (w9.alloc (.cells #[.string f.rel, .slice ga f.args.length gc] 35)) = W5 at *
    have k00 := HXK.out.cell0; have k01 := HXK.out.cell1
    have k10 := HFK.out.cell0; have k11 := HFK.out.cell1
    have k20 := HGK.out.cell0; have k21 := HGK.out.cell1
    go_wp2_with fail
    clear k00 k01 k10 k11 k20 k21
    refine (matchK HX.out HF.out HY.out hzp hzf hzx HL2.out).mono ?_
    rintro e w9 ⟨za, zc, rfl, hoz, b9⟩
    replace HX := Lib.hid (HX.out.up b9)
    replace HF := Lib.hid (HF.out.up b9)
    replace HB := Lib.hid (HB.out.up b9)
    replace HXK := Lib.hid (HXK.out.up b9)
    replace HFK := Lib.hid (HFK.out.up b9)
    replace HY := Lib.hid (HY.out.up b9)
    replace HG := Lib.hid (HG.out.up b9)
    replace HGK := Lib.hid (HGK.out.up b9)
    replace HU := Lib.hid (HU.out.tr b9)
    have HZ := Lib.hid hoz
    clear hoz
    clear b9
    simp only [oL, Option.getD_some, Option.isSome_some] at HZ ⊢
    have k00 := HXK.out.cell0; have k01 := HXK.out.cell1
    have k10 := HFK.out.cell0; have k11 := HFK.out.cell1
    have k20 := HGK.out.cell0; have k21 := HGK.out.cell1
    go_wp2_with fail
    clear k00 k01 k10 k11 k20 k21
    refine (cmpKS HF.out HG.out hzf).mono ?_
    rintro e w9 ⟨rfl, b9⟩
    replace HX := Lib.hid (HX.out.up b9)
    replace HF := Lib.hid (HF.out.up b9)
    replace HB := Lib.hid (HB.out.up b9)
    replace HXK := Lib.hid (HXK.out.up b9)
    replace HFK := Lib.hid (HFK.out.up b9)
    replace HY := Lib.hid (HY.out.up b9)
    replace HG := Lib.hid (HG.out.up b9)
    replace HGK := Lib.hid (HGK.out.up b9)
    replace HZ := Lib.hid (HZ.out.up b9)
    replace HU := Lib.hid (HU.out.tr b9)
    clear b9
    have k00 := HXK.out.cell0; have k01 := HXK.out.cell1
    have k10 := HFK.out.cell0; have k11 := HFK.out.cell1
    have k20 := HGK.out.cell0; have k21 := HGK.out.cell1
    go_wp2_with fail
    clear k00 k01 k10 k11 k20 k21
    refine (cPairsEq HY.out HZ.out).mono ?_
    rintro e w9 ⟨rfl, b9⟩
    replace HX := Lib.hid (HX.out.up b9)
    replace HF := Lib.hid (HF.out.up b9)
    replace HB := Lib.hid (HB.out.up b9)
    replace HXK := Lib.hid (HXK.out.up b9)
    replace HFK := Lib.hid (HFK.out.up b9)
    replace HY := Lib.hid (HY.out.up b9)
    replace HG := Lib.hid (HG.out.up b9)
    replace HGK := Lib.hid (HGK.out.up b9)
    replace HZ := Lib.hid (HZ.out.up b9)
    replace HU := Lib.hid (HU.out.tr b9)
    clear b9
    have k00 := HXK.out.cell0; have k01 := HXK.out.cell1
    have k10 := HFK.out.cell0; have k11 := HFK.out.cell1
    have k20 := HGK.out.cell0; have k21 := HGK.out.cell1
    go_wp2_with fail
    clear k00 k01 k10 k11 k20 k21
    refine (isBK HY.out hzx HL3.out).mono ?_
    rintro e w9 ⟨rfl, b9⟩
    replace HX := Lib.hid (HX.out.up b9)
    replace HF := Lib.hid (HF.out.up b9)
    replace HB := Lib.hid (HB.out.up b9)
    replace HXK := Lib.hid (HXK.out.up b9)
    replace HFK := Lib.hid (HFK.out.up b9)
    replace HY := Lib.hid (HY.out.up b9)
    replace HG := Lib.hid (HG.out.up b9)
    replace HGK := Lib.hid (HGK.out.up b9)
    replace HZ := Lib.hid (HZ.out.up b9)
    replace HU := Lib.hid (HU.out.tr b9)
    clear b9
    have k00 := HXK.out.cell0; have k01 := HXK.out.cell1
    have k10 := HFK.out.cell0; have k11 := HFK.out.cell1
    have k20 := HGK.out.cell0; have k21 := HGK.out.cell1
    go_wp2_with fail
    clear k00 k01 k10 k11 k20 k21
    refine (cVarsOf HX.out (by omega)).mono ?_
    rintro e w10 ⟨vv, rfl, hov, b9⟩
    have hvl : (varsP p).length ≤ 300 := by have := varsP_tsz p; unfold tsz at this; have := hzp; omega
    have HO : Hid (TO 9 w10 w9.heap.size w10.heap.size vv (varsP p ++ (B.take 0).map (·.1))) := by show TO _ _ _ _ _ _; simpa using hov.1
    have HB9 := Lib.hid b9
    clear hov b9 HG HGK HZ HF HFK HXK HX HR HL1 HL2 HL3
    go_wp2_with fail
    go_loopw [14, 15] (fun o i wr => ∃ (k : Nat), k ≤ B.length ∧ i = .int .i64 k ∧ Up w9 wr ∧ Hid (TO 9 wr w9.heap.size wr.heap.size o (varsP p ++ (B.take k).map (·.1)))) (fun _ i _ => B.length - (intOf i).toNat)
    case atStart => exact ⟨0, Nat.zero_le _, rfl, HB9.out, HO.out⟩
    case round =>
      clear HO HB9
      obtain ⟨k, hk, rfl, hb, HO⟩ := hrel
      by_cases hlt : k < B.length
      · obtain ⟨b, off, rfl, c0, c1⟩ := SP.at (HB.out.up hb).1 hlt
        have i1 : (0 : Int) ≤ (k : Int) := by omega
        have i2 : (k : Int) < (B.length : Int) := by omega
        have hln : (varsP p ++ (B.take k).map (·.1)).length ≤ 400 := by simp; omega
        have HM : Hid (varsP p ++ (B.take (k + 1)).map (·.1) = (varsP p ++ (B.take k).map (·.1)) ++ [B[k].1]) := by show _ = _; rw [map_take_succ hlt, List.append_assoc]
        have HN := Lib.hid (news1 (Blk.new wr 9 #[.string B[k].1]))
        have hba : w9.heap.size ≤ (wr.alloc (.cells #[.string B[k].1] 9)).heap.size := by have := hb.size; simp; omega
        generalize hLL : varsP p ++ (B.take k).map (·.1) = LL at *
        go_wp2_with (at_builtin; refine wpList_append_own _ rfl _ _ 22 rfl w9.heap.size 9 i0 _ 1 16 Try.underlying22 hi0 hz0 hz1 hz2 rfl (by decide) _ LL.length (LL.map Value.string) rfl (HO.out.1.alloc _) ⟨wr.heap.size, 0, none⟩ 1 1 [.string B[k].1] rfl rfl HN.out (one1 rfl) (by unfold maxLen; omega) (by omega) hba ?_; intro v6 w6 hown' hgrow _; have B6 : Up w9 w6 := (hb.al _).grown hgrow (fun g hg => (HO.out.1.lt g hg).1); have HTO6 : Hid (TO 9 w6 w9.heap.size w6.heap.size v6 (LL ++ [B[k].1])) := TO.snoc hown'; clear c0 c1 hown' hgrow HO; obtain ⟨_, _, e9, c0, c1⟩ := SP.at (HB.out.up B6).1 hlt; injection e9 with e9; injection e9 with e9a e9b; subst e9a e9b)
        clear c0 c1
        refine (valK (HY.out.up B6) (HB30.out _ (List.getElem_mem hlt)) (HL4.out _ (List.getElem_mem hlt))).mono ?_
        rintro e w11 ⟨rfl, b11⟩
        have B11 := B6.tr b11
        have HTO11 := Lib.hid (((show Ob (TO 9) w6 w9.heap.size w6.heap.size v6 _ from ⟨HTO6.out, Nat.le_refl _⟩).up b11).1.mono (Nat.le_refl _) b11.size)
        clear B6 HTO6 b11
        obtain ⟨_, _, e9, c0, c1⟩ := SP.at (HB.out.up B11).1 hlt; injection e9 with e9; injection e9 with e9a e9b; subst e9a e9b
        go_wp2
        have hT := HTO11.out
        rw [← HM.out] at hT
        exact ⟨⟨k+1, by omega, by go_num, B11, hT⟩, by simp [intOf]; omega⟩
      · have i2 : ¬ (k : Int) < (B.length : Int) := by omega
        have hrs : resP x (varsP p ++ (B.take k).map (·.1)) = x := by
          rw [List.take_of_length_le (by omega)]
          refine HL5.out _ (fun v hv hq => ?_) (fun q hq => ?_)
          · rw [List.mem_append]; exact .inl ((setT_mem _ _).2 (List.mem_filter.2 ⟨hv, hq⟩))
          · rw [List.mem_append]; exact .inr (List.mem_map.2 ⟨q, hq, rfl⟩)
        have HRS := Lib.hid hrs
        clear hrs
        generalize varsP p ++ (B.take k).map (·.1) = LL at *
        go_wp2_with fail
        refine (resK (HY.out.up hb) (show Ob TX wr w9.heap.size wr.heap.size _ LL from ⟨HO.out.tx, Nat.le_refl _⟩) hzx HRS.out).mono ?_
        rintro e w12 ⟨v', rfl, hov', b12⟩
        have HQ := Lib.hid hov'
        have B12 := hb.tr b12
        clear hov' b12 HO
        go_wp2_with fail
        refine (cPairsEq HQ.out (HY.out.up B12)).mono ?_
        rintro e w13 ⟨rfl, b13⟩
        have HU13 := Lib.hid (HU.out.tr (B12.tr b13))
        clear b13 B12
        go_wp2
        go_ret
        exact ⟨rfl, HU13.out⟩
end Go.Proofs.Ytpkphijfncbbiaa
