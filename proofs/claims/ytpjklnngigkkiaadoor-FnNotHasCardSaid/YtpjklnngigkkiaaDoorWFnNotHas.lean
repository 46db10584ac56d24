/- The walk of the law FnNotHas: for every input the call returns true and nothing that was there has turned. -/
import Derived.Deep.DeepCutAuto
import Derived.Test.YtpjklnngigkkiaaDoorDr2
import Derived.Test.YtpjklnngigkkiaaDoorDr5
import Derived.Test.YtpjklnngigkkiaaDoorDr6
import Derived.Test.YtpjklnngigkkiaaDoorPlH
import Derived.Test.YtpjklnngigkkiaaDoorRg
namespace Go.Proofs.YtpjklnngigkkiaaDoor
open Go.RowKit
attribute [local go_sem ↓] Go.wp_at_zero Go.wp_at_succ
set_option linter.unusedVariables false
set_option linter.unusedSimpArgs false
theorem SP.mono_ {w : World} {lo hi lo' hi' : Nat} {v : Value} {L : Prs} (h : SP w lo hi v L) (h1 : lo' ≤ lo) (h2 : hi ≤ hi') : SP w lo' hi' v L :=
  SL.mono h h1 h2 fun cs x hx => hx
set_option maxHeartbeats 4000000 in
set_option maxRecDepth 100000 in
theorem cDrawMF {v : Value} {L : List Int} {lo hi : Nat} {w : World} (h : Ob BX w lo hi v L) (hok : ∀ n ∈ L, okB n) (hl : L.length ≤ 4096) :
    Calls Tryd.prog 24 #[v] w fun e w' => ∃ v' vb vl, e = .returned (.tuple #[v', vb, vl]) ∧ ∃ p B M, Ob AF w' w.heap.size w'.heap.size v' p ∧ Ob SP w' w.heap.size w'.heap.size vb B ∧ Ob SF w' w.heap.size w'.heap.size vl M ∧ okFW p ∧ smallP 7 B ∧ smallFs M ∧ Up w w' := by
  have KR := Lib.hid (Blk.new w 41 #[.string ⟨#[]⟩, .slice none 0 0])
  have hb0 : Up w (w.alloc (.cells #[.string ⟨#[]⟩, .slice none 0 0] 41)) := Up.al1 _ _
  have HH := Lib.hid (h.up hb0)
  have HB := Lib.hid hb0
  have hws : (w.alloc (.cells #[.string ⟨#[]⟩, .slice none 0 0] 41)).heap.size = w.heap.size + 1 := by simp
  clear h hb0
  go_enter Tryd.func24, Tryd.ntmps24
  go_wp2_with fail
  generalize (w.alloc (.cells #[.string ⟨#[]⟩, .slice none 0 0] 41)) = W at *
  refine (cNew HH.out hok hl).mono ?_
  rintro e w1 ⟨g, rfl, hg, hc, b1⟩
  have KR1 := Lib.hid (KR.out.up b1)
  have hz1 := b1.size
  have HB1 := Lib.hid b1
  have hgl := hc.lt
  clear b1 KR
  go_wp2_with fail
  refine (cAnyP hc).mono ?_
  rintro e w2 ⟨v2, rfl, p, ho, hf, hd⟩
  obtain ⟨_, rfl, av, rfl, htx⟩ := ho.1
  obtain ⟨oa, oc, rfl⟩ := htx.form
  have hal := Up.al1 w2 (.cells #[.string p.rel, .slice oa p.args.length oc] 41)
  have HF := Lib.hid hf
  have HT3 := Lib.hid ((show Ob TX w2 w1.heap.size w2.heap.size (.slice oa p.args.length oc) p.args from ⟨htx, Nat.le_refl _⟩).up hal)
  have HD3 := Lib.hid (hd.up hal)
  have KR3 := Lib.hid ((KR1.out.dr_ hd (by omega)).up hal)
  have KP3 := Lib.hid (Blk.new w2 41 #[.string p.rel, .slice oa p.args.length oc])
  have hz2 := hd.2.size
  have hz3 := hal.size
  clear ho hf htx hd hal hc KR1
  go_upto_region 3 with fail
  generalize hp : w2.heap.size = p2 at *
  generalize (w2.alloc (.cells #[.string p.rel, .slice oa p.args.length oc] 41)) = W3 at *
  have HU3 := Lib.hid (HB.out.tr (HD3.out.below HB1.out hg))
  have hdr := (Up.rf W3).dr
  refine wp_region_held_drew (S := (fun w' => w'.cell? ⟨p2, 0, none⟩ = some (.string p.rel) ∧ w'.cell? ⟨p2, 1, none⟩ = some (.slice oa p.args.length oc) ∧ Up w w')) (by kernel_rfl) (by (try dsimp only); exact ⟨(KP3.out.up hdr).cell 0, (KP3.out.up hdr).cell 1, HU3.out.tr hdr⟩) (fun hHeld => ?_)
  refine takeW (i := 0) (v := ?_) rfl (by kernel_rfl) (by kernel_rfl) (by kernel_rfl) (fun _ _ _ h => h) (by rfl) (by assumption) ?_ ?_
  rotate_left
  · (intro w9 hSw; (try dsimp only at hSw); go_simp; (try with_reducible rfl))
  simp only [Act.put, List.setIfInBounds_toArray, List.set_cons_zero, List.set_cons_succ]
  refine takeW (i := 1) (v := ?_) rfl (by kernel_rfl) (by kernel_rfl) (by kernel_rfl) (fun _ _ _ h => h) (by rfl) (by assumption) ?_ ?_
  rotate_left
  · (intro w9 hSw; (try dsimp only at hSw); go_simp; (try with_reducible rfl))
  simp only [Act.put, List.setIfInBounds_toArray, List.set_cons_zero, List.set_cons_succ]
  refine takeW (i := 3) (v := ?_) rfl (by kernel_rfl) (by kernel_rfl) (by kernel_rfl) (fun _ _ _ h => h) (by rfl) (by assumption) ?_ ?_
  rotate_left
  · (intro w9 hSw; (try dsimp only at hSw); go_simp; (try with_reducible rfl))
  simp only [Act.put, List.setIfInBounds_toArray, List.set_cons_zero, List.set_cons_succ]
  refine comeC (i := 2) rfl (by kernel_rfl) (by rfl) (fun K hK => ?_)
  go_simp
  go_at_call 66; refine (cAnyB (HD3.out.up hdr).1).mono ?_; rintro e w4 ⟨vb, rfl, B, hob, hbs, hd4⟩; have hdr4 := Dr.pre hdr hd4; have KP4 := KP3.out.dr_ hdr4 (by omega); have KR4 := Lib.hid (KR3.out.dr_ hdr4 (by omega)); have HT4 := Lib.hid (HT3.out.dr_ hdr4 (.inr (by omega))); have HB4 := Lib.hid hob.sp; have HBs := Lib.hid hbs; have HD4 := HD3.out.tr hdr4; have HU4 := Lib.hid (HB.out.tr (HD4.below HB1.out hg)); have hz4 := hdr4.2.size; clear hHeld hob hbs
  go_wp2_with fail
  refine hK.out _ _ (by (try dsimp only); exact ⟨KP4.cell 0, KP4.cell 1, HU4.out⟩) (fun hHeld => ?_)
  clear hK K
  try simp only [Act.put, List.setIfInBounds_toArray, List.set_cons_zero, List.set_cons_succ]
  refine comeC (i := 4) rfl (by kernel_rfl) (by rfl) (fun K hK => ?_)
  go_simp
  go_at_call 67; refine (cList HD4.1).mono ?_; rintro e w5 ⟨vl, rfl, M, hol, hms, hd5⟩; have KP5 := KP4.dr_ hd5 (by omega); have KR5 := Lib.hid (KR4.out.dr_ hd5 (by omega)); have HT5 := Lib.hid (HT4.out.dr_ hd5 (.inr (by omega))); have HB5 := Lib.hid (HB4.out.dr_ hd5 (.inr (by show g < W3.heap.size; omega))); have HL5 := Lib.hid hol; have HMs := Lib.hid hms; have HD5 := HD4.tr hd5; have HU5 := Lib.hid (HB.out.tr (HD5.below HB1.out hg)); have hz5 := hd5.2.size; clear hHeld hol hms
  go_wp2_with fail
  refine hK.out _ _ (by (try dsimp only); exact ⟨KP5.cell 0, KP5.cell 1, HU5.out⟩) (fun hHeld => ?_)
  clear hK K
  try simp only [Act.put, List.setIfInBounds_toArray, List.set_cons_zero, List.set_cons_succ]
  have r0 : w5.cell? ⟨w.heap.size, 0, none⟩ = some (.string ⟨#[]⟩) := KR5.out.cell 0
  have r1 : w5.cell? ⟨w.heap.size, 1, none⟩ = some (.slice none 0 0) := KR5.out.cell 1
  have q0 := KR5.out.frozen 0
  have q1 := KR5.out.frozen 1
  refine comeC (i := 5) rfl (by kernel_rfl) (by rfl) (fun K hK => ?_)
  go_simp
  refine hK.out _ _ (by (try dsimp only); exact ⟨((KP5.far (p := ⟨w.heap.size, 0, none⟩) (by show p2 ≠ w.heap.size; omega) _).far (p := ⟨w.heap.size, 1, none⟩) (by show p2 ≠ w.heap.size; omega) _).cell 0, ((KP5.far (p := ⟨w.heap.size, 0, none⟩) (by show p2 ≠ w.heap.size; omega) _).far (p := ⟨w.heap.size, 1, none⟩) (by show p2 ≠ w.heap.size; omega) _).cell 1, Up.store2 HU5.out (Nat.le_refl _) _ _⟩) (fun hHeld => ?_)
  clear hK K
  try simp only [Act.put, List.setIfInBounds_toArray, List.set_cons_zero, List.set_cons_succ]
  refine takeW (i := 6) (v := ?_) rfl (by kernel_rfl) (by kernel_rfl) (by kernel_rfl) (fun _ _ _ h => h) (by rfl) (by assumption) ?_ ?_
  rotate_left
  · (intro w9 hSw; (try dsimp only at hSw); go_simp; (try with_reducible rfl))
  simp only [Act.put, List.setIfInBounds_toArray, List.set_cons_zero, List.set_cons_succ]
  refine takeW (i := 7) (v := ?_) rfl (by kernel_rfl) (by kernel_rfl) (by kernel_rfl) (fun _ _ _ h => h) (by rfl) (by assumption) ?_ ?_
  rotate_left
  · (intro w9 hSw; (try dsimp only at hSw); go_simp; (try with_reducible rfl))
  simp only [Act.put, List.setIfInBounds_toArray, List.set_cons_zero, List.set_cons_succ]
  refine wpAnyH_done (by kernel_rfl) ?_ _
  go_wp2
  clear r0 r1 q0 q1
  have HU := HU5
  have hK9 := KR5.out.store2 (.string p.rel) (.slice oa p.args.length oc)
  have hU9 := Up.store2 HU.out (Nat.le_refl _) (.string p.rel) (.slice oa p.args.length oc)
  have hz9 := size_store2 w5 w.heap.size (.string p.rel) (.slice oa p.args.length oc)
  have hT9 := (HT5.out.store2 (p := w.heap.size) (.inl (by omega)) (.string p.rel) (.slice oa p.args.length oc)).1
  have hB9 := (HB5.out.store2 (p := w.heap.size) (.inl (by show w.heap.size < W3.heap.size; omega)) (.string p.rel) (.slice oa p.args.length oc)).1
  have hL9 := (HL5.out.store2 (p := w.heap.size) (.inl (by omega)) (.string p.rel) (.slice oa p.args.length oc)).1
  clear hHeld
  generalize ((w5.setCell ⟨w.heap.size, 0, none⟩ (.string p.rel)).setCell ⟨w.heap.size, 1, none⟩ (.slice oa p.args.length oc)) = W9 at *
  have e0 := hK9.cell0; have e1 := hK9.cell1
  refine bodyPost_ret (v := .tuple #[.agg #[.string p.rel, .slice oa p.args.length oc], vb, vl]) (by simp [results, Tryd.results24, go_sem, e0, e1]) rfl ?_
  exact ⟨_, _, _, rfl, p, B, M, ⟨⟨[_, _], rfl, _, rfl, hT9.mono (by omega) (by omega)⟩, Nat.le_refl _⟩, ⟨SP.mono_ hB9 (by show w.heap.size ≤ W3.heap.size; omega) (by omega), Nat.le_refl _⟩, ⟨SF.mono_ hL9 (by omega) (by omega), Nat.le_refl _⟩, HF.out, HBs.out, HMs.out, hU9⟩
theorem holdsC_known {v vb vl : Value} {x : CondV} {b : Prs} {M : List FactV} {r : Bool} {lo hi lo' hi' lo2 hi2 : Nat} {w : World} (hT : Tabs w) (h : Ob AC w lo hi v x) (hb : Ob SP w lo' hi' vb b) (hm : Ob SF w lo2 hi2 vl M) (hz : csz x ≤ 1048576) (hzb : psz b ≤ 1048576) (hzm : fssz M ≤ 1048576) (hr : holdsCB x b M = r) :
    Calls Tryd.prog 25 #[v, vb, vl] w fun e w' => e = .returned (.bool r) ∧ Up w w' := by
  subst hr
  exact cHoldsCond hT h hb hm hz hzb hzm
theorem isB_known {v : Value} {x : Prs} {r : Bool} {lo hi : Nat} {w : World} (h : Ob SP w lo hi v x) (hz : psz x ≤ 1048576) (hr : isBindB x = r) :
    Calls Tryd.prog 27 #[v] w fun e w' => e = .returned (.bool r) ∧ Up w w' := by
  subst hr
  exact cIsBindingS h hz
theorem isP_known {v : Value} {x : FactV} {r : Bool} {lo hi : Nat} {w : World} (h : Ob AF w lo hi v x) (hz : fsz x ≤ 1048576) (hr : isPatB x = r) :
    Calls Tryd.prog 26 #[v] w fun e w' => e = .returned (.bool r) ∧ Up w w' := by
  subst hr
  exact cIsPatternS h hz
theorem mfs_known {vp vb vl : Value} {p : FactV} {b : Prs} {M : List FactV} {n : Nat} {lo hi lo' hi' lo2 hi2 : Nat} {w : World} (hp : Ob AF w lo hi vp p) (hb : Ob SP w lo' hi' vb b) (hm : Ob SF w lo2 hi2 vl M) (hz : fsz p ≤ 1048576) (hzb : psz b ≤ 1048576) (hzm : fssz M ≤ 1048576) (hn : (mfsF p b M).length = n) :
    Calls Tryd.prog 28 #[vp, vb, vl] w fun e w' => ∃ a c, e = .returned (.slice a n c) ∧ Up w w' := by
  subst hn
  refine (cMatchFs hp hb hm hz hzb hzm).mono ?_
  rintro e w' ⟨u, rfl, ho, hu⟩
  obtain ⟨a, c, rfl⟩ := ho.sf.1.form
  exact ⟨a, c, rfl, hu⟩
theorem patC_ob {w : World} {lo hi : Nat} {a : Option Addr} {c : Nat} {p : FactV} (k : Int) (h : Ob AF w lo hi (.agg #[.string p.rel, .slice a p.args.length c]) p) : Ob AC w lo hi (.agg #[.int .i64 k, .string p.rel, .slice a p.args.length c, .string ⟨#[]⟩, .string ⟨#[]⟩]) (patC k p) := by
  obtain ⟨⟨_, e9, av, e8, htx⟩, hh⟩ := h
  subst e8
  injection e9 with e9
  have e7 : Value.slice a p.args.length c = av := by have := congrArg (fun q => q[1]?) e9; simpa using this
  subst e7
  exact ⟨⟨[_, _, _, _, _], rfl, _, rfl, htx⟩, hh⟩
theorem patC_sz {k : Int} {p : FactV} (h : fsz p ≤ 59) : csz (patC k p) ≤ 1048576 := by
  show fsz p + 0 + 0 ≤ 1048576
  omega
set_option maxHeartbeats 20000000 in
set_option maxRecDepth 100000 in
theorem walk_FnNotHas (w : World) (v0 : Value) (x0 : List Int) (m0 : BX w 0 w.heap.size v0 x0) (o0 : ∀ n ∈ x0, okB n) (H_Tabs : Tabs w) :
    Calls Tryd.prog 4 #[v0] w fun e w' => e = .returned (.bool true) ∧ Below w.heap.size w w' := by
  have HV : Hid (Ob BX w 0 w.heap.size v0 x0) := ⟨m0, Nat.le_refl _⟩
  have HT := Lib.hid H_Tabs
  have HK := Lib.hid o0
  clear m0 H_Tabs o0
  go_enter Tryd.func4, Tryd.ntmps4
  go_wp2_with fail
  refine (cBig HV.out).mono ?_
  rintro e w1 ⟨rfl, rfl⟩
  by_cases hbig : (4096 : Int) < x0.length
  · have hd : decide ((4096 : Int) < x0.length) = true := decide_eq_true hbig
    rw [hd]
    go_wp2
    go_ret
    exact ⟨rfl, Below.refl _ _⟩
  have hd : decide ((4096 : Int) < x0.length) = false := decide_eq_false hbig
  have hl : x0.length ≤ 4096 := by omega
  rw [hd]
  clear hd hbig
  go_wp2_with fail
  refine (cDrawMF HV.out HK.out hl).mono ?_
  rintro e w1 ⟨v1, vb, vl, rfl, p, B, M, ho, hob, hol, hf, hbs, hms, b1⟩
  have hzp := okFW_fsz hf
  have hzp1 : fsz p ≤ 1048576 := by omega
  have hzb : psz B ≤ 1048576 := by have := smallP_psz hbs; omega
  have hzm : fssz M ≤ 1048576 := by have := smallFs_z hms; omega
  obtain ⟨oa, oc, rfl⟩ := ho.1.form
  obtain ⟨ba, bc, rfl⟩ := hob.1.form
  obtain ⟨la, lc, rfl⟩ := hol.1.form
  have hal := Up.al1 w1 (.cells #[.string p.rel, .slice oa p.args.length oc] 41)
  have HX1 := Lib.hid (ho.up hal)
  have HB1 := Lib.hid (hob.up hal)
  have HL1 := Lib.hid (hol.up hal)
  have HU1 := Lib.hid (b1.tr hal)
  have HK1 := Lib.hid (Blk.new w1 41 #[.string p.rel, .slice oa p.args.length oc])
  clear ho hf hbs hob hol hms b1 hal
  go_upto_region 4 with fail
  generalize hp1 : w1.heap.size = pp at *
  generalize (w1.alloc (.cells #[.string p.rel, .slice oa p.args.length oc] 41)) = W1 at *
  have HT1 := Lib.hid (HT.out.up HU1.out)
  clear HT hp1
  have LN := fun (h : isPatB p = false ∨ isBindB B = false) => (show holdsCB (patC 1 p) B M = false ∧ holdsCB (patC 2 p) B M = false from ⟨has_no (.inl rfl) h, has_no (.inr rfl) h⟩)
  have LT := has_law (b := B) (p := p) (L := M)
  have s1 := patC_sz (k := 1) hzp
  have s2 := patC_sz (k := 2) hzp
  generalize h1 : holdsCB (patC 1 p) B M = t1 at *
  generalize h2 : holdsCB (patC 2 p) B M = t2 at *
  generalize hpt : isPatB p = pt at *
  generalize hbd : isBindB B = bd at *
  generalize hn : (mfsF p B M).length = n at *
  have HLN := Lib.hid LN
  have HLT := Lib.hid LT
  clear LN LT
  have k0 := HK1.out.cell0
  have k1 := HK1.out.cell1
  go_wp2_with fail
  refine (holdsC_known HT1.out (patC_ob 1 HX1.out) HB1.out HL1.out s1 hzb hzm h1).mono ?_
  rintro e w2 ⟨rfl, b2⟩
  have HT2 := Lib.hid (HT1.out.up b2)
  have HX2 := Lib.hid (HX1.out.up b2)
  have HB2 := Lib.hid (HB1.out.up b2)
  have HL2 := Lib.hid (HL1.out.up b2)
  have HK2 := Lib.hid (HK1.out.up b2)
  have HU2 := Lib.hid (HU1.out.tr b2)
  clear b2 HX1 HB1 HL1 HK1 HU1 k0 k1
  have k0 := HK2.out.cell0
  have k1 := HK2.out.cell1
  go_wp2_with fail
  refine (holdsC_known HT2.out (patC_ob 2 HX2.out) HB2.out HL2.out s2 hzb hzm h2).mono ?_
  rintro e w3 ⟨rfl, b3⟩
  have HT3 := Lib.hid (HT2.out.up b3)
  have HX3 := Lib.hid (HX2.out.up b3)
  have HB3 := Lib.hid (HB2.out.up b3)
  have HL3 := Lib.hid (HL2.out.up b3)
  have HK3 := Lib.hid (HK2.out.up b3)
  have HU3 := Lib.hid (HU2.out.tr b3)
  clear b3 HX2 HB2 HL2 HK2 HU2 k0 k1
  have k0 := HK3.out.cell0
  have k1 := HK3.out.cell1
  go_wp2_with fail
  refine (isP_known HX3.out hzp1 hpt).mono ?_
  rintro e w4 ⟨rfl, b4⟩
  have HX4 := Lib.hid (HX3.out.up b4)
  have HB4 := Lib.hid (HB3.out.up b4)
  have HL4 := Lib.hid (HL3.out.up b4)
  have HK4 := Lib.hid (HK3.out.up b4)
  have HU4 := Lib.hid (HU3.out.tr b4)
  clear b4 HX3 HB3 HL3 HK3 HU3 k0 k1
  clear h1 h2 hpt
  cases pt
  · obtain ⟨rfl, rfl⟩ := HLN.out (.inl rfl)
    clear HLN HLT
    go_wp2
    go_ret
    exact ⟨rfl, HU4.out⟩
  · go_wp2_with fail
    refine (isB_known HB4.out hzb hbd).mono ?_
    rintro e w5 ⟨rfl, b5⟩
    have HX5 := Lib.hid (HX4.out.up b5)
    have HB5 := Lib.hid (HB4.out.up b5)
    have HL5 := Lib.hid (HL4.out.up b5)
    have HK5 := Lib.hid (HK4.out.up b5)
    have HU5 := Lib.hid (HU4.out.tr b5)
    clear b5 hbd
    cases bd
    · obtain ⟨rfl, rfl⟩ := HLN.out (.inr rfl)
      clear HLN HLT
      go_wp2
      go_ret
      exact ⟨rfl, HU5.out⟩
    · obtain ⟨l1, l2⟩ := HLT.out (by simp) (by simp)
      clear HLN HLT
      have k0 := HK5.out.cell0
      have k1 := HK5.out.cell1
      by_cases hn0 : n = 0
      · subst hn0
        obtain rfl : t1 = false := by rw [l1]; rfl
        obtain rfl : t2 = true := by rw [l2]; rfl
        clear l1 l2
        go_wp2_with fail
        refine (mfs_known HX5.out HB5.out HL5.out hzp1 hzb hzm hn).mono ?_
        rintro e w6 ⟨a6, c6, rfl, b6⟩
        have HU6 := Lib.hid (HU5.out.tr b6)
        clear b6 hn k0 k1
        go_wp2
        go_ret
        exact ⟨rfl, HU6.out⟩
      · obtain rfl : t1 = true := by rw [l1]; exact decide_eq_true (by omega)
        obtain rfl : t2 = false := by rw [l2]; exact decide_eq_false hn0
        have hd : decide ((0 : Int) < (n : Int)) = true := decide_eq_true (by omega)
        have hi : (0 : Int) < (n : Int) := by omega
        have hdN : decide (0 < n) = true := decide_eq_true (by omega)
        clear l1 l2 hn0
        go_wp2_with fail
        refine (mfs_known HX5.out HB5.out HL5.out hzp1 hzb hzm hn).mono ?_
        rintro e w6 ⟨a6, c6, rfl, b6⟩
        have HU6 := Lib.hid (HU5.out.tr b6)
        clear b6 hn k0 k1
        go_wp2
        go_ret
        first
          | exact ⟨rfl, HU6.out⟩
          | exact ⟨ret_bool hdN, HU6.out⟩
end Go.Proofs.YtpjklnngigkkiaaDoor
