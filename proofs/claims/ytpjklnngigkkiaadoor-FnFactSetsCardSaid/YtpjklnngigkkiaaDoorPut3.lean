/- A fact put into ascending ones, the program's way: copies of all; wherever the lengths can be counted. -/
import Derived.Test.YtpjklnngigkkiaaDoorCpF
import Derived.Test.YtpjklnngigkkiaaDoorCmpF
namespace Go.Proofs.YtpjklnngigkkiaaDoor
open Go.RowKit
attribute [local go_sem ↓] Go.wp_at_zero Go.wp_at_succ
set_option linter.unusedVariables false
theorem fsz_args3 {f : FactV} (h : fsz f ≤ 1048576) : f.args.length ≤ 4194304 := by unfold fsz tsz at h; omega
set_option maxHeartbeats 8000000 in
set_option maxRecDepth 100000 in
theorem cPutFact {v u : Value} {x : List FactV} {f : FactV} {lo hi lo' hi' : Nat} {w : World} (hT : Tabs w) (h : Ob SF w lo hi v x) (h' : Ob AF w lo' hi' u f) (hz : fssz x ≤ 1048576) (hzf : fsz f ≤ 1048576) :
    Calls Tryd.prog 59 #[v, u] w fun e w' => ∃ v', e = .returned v' ∧ Ob (SO 9 32) w' w.heap.size w'.heap.size v' (insF x f) ∧ Up w w' := by
  have hlen : x.length ≤ 1048576 := by unfold fssz at hz; omega
  have HZ := Lib.hid (fssz_arg hz)
  have HZ2 := Lib.hid (fssz_at' hz)
  have hfa := fsz_args3 hzf
  clear hz
  obtain ⟨a, cap, rfl⟩ := h.1.form
  obtain ⟨fa, fc, rfl⟩ := h'.1.form
  obtain ⟨i0, hi0, hz0, hz1, hz2⟩ := info_parts Tryd.infoFact
  have hb0 : Up w (w.alloc (.cells #[.string f.rel, .slice fa f.args.length fc] 32)) := Up.al1 _ _
  have HV := Lib.hid (h.up hb0)
  have HF := Lib.hid (h'.up hb0)
  have HT := Lib.hid (hT.up hb0)
  have KP := Lib.hid (Blk.new w 32 #[.string f.rel, .slice fa f.args.length fc])
  have HB := Lib.hid hb0
  clear h h' hb0 hT
  go_enter Tryd.func59, Tryd.ntmps59
  go_wp2_with fail
  have hw0 : w.heap.size ≤ (w.alloc (.cells #[.string f.rel, .slice fa f.args.length fc] 32)).heap.size := HB.out.size
  generalize (w.alloc (.cells #[.string f.rel, .slice fa f.args.length fc] 32)) = W at *
  go_loopw [5, 6, 11] (fun o d i wz => ∃ (ov : Value) (wr : World) (k : Nat) (dn : Bool), ov = o ∧ wr = wz ∧ k ≤ x.length ∧ i = .int .i64 k ∧ d = .bool dn ∧ Hid (dn = insDF x f k) ∧ Hid (Up W wr) ∧ Hid (SO 9 32 wr W.heap.size wr.heap.size ov (insKF x f k))) (fun _ _ i _ => x.length - (intOf i).toNat)
  case atStart => exact ⟨_, _, 0, false, rfl, rfl, Nat.zero_le _, rfl, rfl, (insDF_0 x f).symm, Up.rf W, by show SO _ _ _ _ _ _ _; rw [insKF_0]; exact SO.nil_ _ _ _ _ _⟩
  case round =>
    obtain ⟨ov, wr, k, dn, rfl, rfl, hk, rfl, rfl, HDN, HBr, HSr⟩ := hrel
    have i1 : (0 : Int) ≤ (k : Int) := by omega
    have hln := insKF_len x f k
    have hbs := HBr.out.size
    by_cases hlt : k < x.length
    · have i2 : (k : Int) < (x.length : Int) := by omega
      have hzk := HZ2.out k hlt
      have hak := HZ.out k hlt
      obtain ⟨b, off, d, c, rfl, c0, c1, hA⟩ := SF.at (HV.out.up HBr.out).1 hlt
      have HO : Hid (Ob AF wr lo hi (.agg #[.string x[k].rel, .slice d x[k].args.length c]) x[k]) := ⟨hA, Nat.le_trans HV.out.2 HBr.out.size⟩
      clear hA
      have hrw9 : ∀ g, (ov : Value).ownBlock = some g → g < wr.heap.size := fun g hg => by obtain ⟨vs, -, ho⟩ := HSr.out.rows; exact (ho.lt g hg).2
      have HU := Lib.hid (Up.al1 wr (.cells #[.string x[k].rel, .slice d x[k].args.length c] 32))
      have KX := Lib.hid (Blk.new wr 32 #[.string x[k].rel, .slice d x[k].args.length c])
      have k0 := ((KP.out.up HBr.out).alloc (.cells #[.string x[k].rel, .slice d x[k].args.length c] 32)).cell0
      have k1 := ((KP.out.up HBr.out).alloc (.cells #[.string x[k].rel, .slice d x[k].args.length c] 32)).cell1
      cases dn
      · by_cases hg : 0 < cmpF x[k] f
        · have HQ := insKF_gt hlt HDN.out.symm hg
          have HD := Lib.hid HQ.2.symm
          have HM := Lib.hid HQ.1
          clear HQ
          have hd : decide (0 < cmpF x[k] f) = true := decide_eq_true hg
          go_wp2_with fail
          generalize (wr.alloc (.cells #[.string x[k].rel, .slice d x[k].args.length c] 32)) = W1 at *
          clear c0 c1 k0 k1
          have HB1 := Lib.hid (HBr.out.tr HU.out)
          refine (cCmpFacts (HT.out.up HB1.out) (HO.out.up HU.out) (HF.out.up HB1.out) hzk hzf).mono ?_
          rintro e w1 ⟨rfl, b1⟩
          have HB2 := Lib.hid (HB1.out.tr b1)
          have HUX := Lib.hid (HU.out.tr b1)
          have KX2 := Lib.hid (KX.out.up b1)
          have HS2 := Lib.hid (HSr.out.up9 HUX.out)
          have k0 := KX2.out.cell0
          have k1 := KX2.out.cell1
          have g0 := (KP.out.up HB2.out).cell0
          have g1 := (KP.out.up HB2.out).cell1
          clear b1 HB1 HU KX
          go_wp2_with fail
          clear k0 k1 g0 g1
          refine (cCopyF (HF.out.up HB2.out) hfa).mono ?_
          rintro e wa3 ⟨u3, rfl, ho, b9⟩
          obtain ⟨av3, rfl, hto⟩ := ho.1
          obtain ⟨a3, q3, rfl⟩ := hto.tx.form
          obtain ⟨vs3, hr, hown⟩ := HS2.out.rows
          have hrow9 : ∀ g, (ov : Value).ownBlock = some g → W.heap.size ≤ g ∧ g < w1.heap.size := fun g hg => hown.lt g hg
          have hown1 := Lib.hid (owns_below hown b9)
          have HR1 := Lib.hid (hr.keep (Stays.of_below b9 (Nat.le_refl _)))
          have HT1 := Lib.hid hto
          have HB9 := Lib.hid (HB2.out.tr b9)
          have hm2 := b9.size
          have hm3 := HB2.out.size
          have hbase : W.heap.size ≤ (wa3.alloc (.cells #[.string f.rel, .slice a3 f.args.length q3] 32)).heap.size := by simp; omega
          have HN := Lib.hid (news2 (Blk.new wa3 32 #[.string f.rel, .slice a3 f.args.length q3]))
          have KX9 := Lib.hid ((KX2.out.up b9).alloc (.cells #[.string f.rel, .slice a3 f.args.length q3] 32))
          clear ho hto hown hr b9
          go_wp2_with (at_builtin; refine wpList_append_own _ rfl _ _ 28 rfl W.heap.size 32 i0 _ 2 40 Tryd.underlying28 hi0 hz0 hz1 hz2 rfl (by decide) _ (insKF x f k).length (flatF (insKF x f k) vs3) rfl (hown1.out.alloc _) ⟨wa3.heap.size, 0, none⟩ 1 1 [.string f.rel, .slice a3 f.args.length q3] rfl rfl HN.out (one2 rfl rfl) (by unfold maxLen; omega) (by omega) hbase ?_; intro v3 wb3 hown' hgrow _; have HS3 : Hid (SO 9 32 wb3 W.heap.size wb3.heap.size v3 (insKF x f k ++ [f])) := SO.app1 (by decide) HR1.out hown1.out HT1.out (by omega) (by omega) (Nat.le_refl _) hown' hgrow; have HB3 := Lib.hid ((HB9.out.al _).grown hgrow (fun g hg => (hrow9 g hg).1)); have KX3 : Hid (Blk wb3 wr.heap.size 32 #[.string x[k].rel, .slice d x[k].args.length c]) := (hgrow.block wr.heap.size KX9.out.lt (fun h => (by have := (hrow9 _ h.symm).2; have := hrw9 _ h.symm; omega))).trans KX9.out; have k0 := KX3.out.cell0; have k1 := KX3.out.cell1; clear hown' hgrow hown1 HR1 HT1 HB9 HN hbase hrow9 hm2 hm3 KX9)
          have HX3 : Hid (Ob AF wb3 lo hi (.agg #[.string x[k].rel, .slice d x[k].args.length c]) x[k]) := ⟨Kp.keep HO.out.1 (fun q h1 h2 => (HB3.out.block q (Nat.lt_of_lt_of_le h2 HV.out.2)).trans (HBr.out.block q (Nat.lt_of_lt_of_le h2 HV.out.2)).symm), Nat.le_trans HV.out.2 HB3.out.size⟩
          clear k0 k1
          have hln3 : (insKF x f k ++ [f]).length ≤ k + 2 := by simp; omega
          refine (cCopyF HX3.out hak).mono ?_
          rintro e wa4 ⟨u4, rfl, ho, b9⟩
          obtain ⟨av4, rfl, hto⟩ := ho.1
          obtain ⟨a4, q4, rfl⟩ := hto.tx.form
          obtain ⟨vs4, hr, hown⟩ := HS3.out.rows
          have hrow9 : ∀ g, (v3 : Value).ownBlock = some g → W.heap.size ≤ g ∧ g < wb3.heap.size := fun g hg => hown.lt g hg
          have hown1 := Lib.hid (owns_below hown b9)
          have HR1 := Lib.hid (hr.keep (Stays.of_below b9 (Nat.le_refl _)))
          have HT1 := Lib.hid hto
          have HB9 := Lib.hid (HB3.out.tr b9)
          have hm2 := b9.size
          have hm3 := HB3.out.size
          have hbase : W.heap.size ≤ (wa4.alloc (.cells #[.string x[k].rel, .slice a4 x[k].args.length q4] 32)).heap.size := by simp; omega
          have HN := Lib.hid (news2 (Blk.new wa4 32 #[.string x[k].rel, .slice a4 x[k].args.length q4]))
          clear ho hto hown hr b9
          go_wp2_with (at_builtin; refine wpList_append_own _ rfl _ _ 28 rfl W.heap.size 32 i0 _ 2 40 Tryd.underlying28 hi0 hz0 hz1 hz2 rfl (by decide) _ (insKF x f k ++ [f]).length (flatF (insKF x f k ++ [f]) vs4) rfl (hown1.out.alloc _) ⟨wa4.heap.size, 0, none⟩ 1 1 [.string x[k].rel, .slice a4 x[k].args.length q4] rfl rfl HN.out (one2 rfl rfl) (by unfold maxLen; omega) (by omega) hbase ?_; intro v4 wb4 hown' hgrow _)
          have HS4 : Hid (SO 9 32 wb4 W.heap.size wb4.heap.size v4 (insKF x f (k + 1))) := by
            show SO _ _ _ _ _ _ _
            rw [HM.out]
            exact SO.app1 (by decide) HR1.out hown1.out HT1.out (by omega) (by omega) (Nat.le_refl _) hown' hgrow
          have HB4 := Lib.hid ((HB9.out.al _).grown hgrow (fun g hg => (hrow9 g hg).1))
          clear hown' hgrow hown1 HR1 HT1 HB9 HN hbase hrow9 hm2 hm3
          go_wp2
          exact ⟨⟨_, _, k+1, true, rfl, rfl, by omega, by go_num, rfl, HD.out, HB4.out, HS4.out⟩, by simp [intOf]; omega⟩
        · have HQ := insKF_le hlt HDN.out.symm hg
          have HD := Lib.hid HQ.2.symm
          have HM := Lib.hid HQ.1
          clear HQ
          have hd : decide (0 < cmpF x[k] f) = false := decide_eq_false hg
          go_wp2_with fail
          generalize (wr.alloc (.cells #[.string x[k].rel, .slice d x[k].args.length c] 32)) = W1 at *
          clear c0 c1 k0 k1
          have HB1 := Lib.hid (HBr.out.tr HU.out)
          refine (cCmpFacts (HT.out.up HB1.out) (HO.out.up HU.out) (HF.out.up HB1.out) hzk hzf).mono ?_
          rintro e w1 ⟨rfl, b1⟩
          have HB2 := Lib.hid (HB1.out.tr b1)
          have HUX := Lib.hid (HU.out.tr b1)
          have KX2 := Lib.hid (KX.out.up b1)
          have HS2 := Lib.hid (HSr.out.up9 HUX.out)
          have k0 := KX2.out.cell0
          have k1 := KX2.out.cell1
          clear b1 HB1 HU KX
          go_wp2_with fail
          clear k0 k1
          refine (cCopyF (HO.out.up HUX.out) hak).mono ?_
          rintro e wa3 ⟨u3, rfl, ho, b9⟩
          obtain ⟨av3, rfl, hto⟩ := ho.1
          obtain ⟨a3, q3, rfl⟩ := hto.tx.form
          obtain ⟨vs3, hr, hown⟩ := HS2.out.rows
          have hrow9 : ∀ g, (ov : Value).ownBlock = some g → W.heap.size ≤ g ∧ g < w1.heap.size := fun g hg => hown.lt g hg
          have hown1 := Lib.hid (owns_below hown b9)
          have HR1 := Lib.hid (hr.keep (Stays.of_below b9 (Nat.le_refl _)))
          have HT1 := Lib.hid hto
          have HB9 := Lib.hid (HB2.out.tr b9)
          have hm2 := b9.size
          have hm3 := HB2.out.size
          have hbase : W.heap.size ≤ (wa3.alloc (.cells #[.string x[k].rel, .slice a3 x[k].args.length q3] 32)).heap.size := by simp; omega
          have HN := Lib.hid (news2 (Blk.new wa3 32 #[.string x[k].rel, .slice a3 x[k].args.length q3]))
          clear ho hto hown hr b9
          go_wp2_with (at_builtin; refine wpList_append_own _ rfl _ _ 28 rfl W.heap.size 32 i0 _ 2 40 Tryd.underlying28 hi0 hz0 hz1 hz2 rfl (by decide) _ (insKF x f k).length (flatF (insKF x f k) vs3) rfl (hown1.out.alloc _) ⟨wa3.heap.size, 0, none⟩ 1 1 [.string x[k].rel, .slice a3 x[k].args.length q3] rfl rfl HN.out (one2 rfl rfl) (by unfold maxLen; omega) (by omega) hbase ?_; intro v3 wb3 hown' hgrow _)
          have HS3 : Hid (SO 9 32 wb3 W.heap.size wb3.heap.size v3 (insKF x f (k + 1))) := by
            show SO _ _ _ _ _ _ _
            rw [HM.out]
            exact SO.app1 (by decide) HR1.out hown1.out HT1.out (by omega) (by omega) (Nat.le_refl _) hown' hgrow
          have HB3 := Lib.hid ((HB9.out.al _).grown hgrow (fun g hg => (hrow9 g hg).1))
          clear hown' hgrow hown1 HR1 HT1 HB9 HN hbase hrow9 hm2 hm3
          go_wp2
          exact ⟨⟨_, _, k+1, false, rfl, rfl, by omega, by go_num, rfl, HD.out, HB3.out, HS3.out⟩, by simp [intOf]; omega⟩
      · have HQ := insKF_d hlt HDN.out.symm
        have HD := Lib.hid HQ.2.symm
        have HM := Lib.hid HQ.1
        clear HQ
        go_wp2_with fail
        generalize (wr.alloc (.cells #[.string x[k].rel, .slice d x[k].args.length c] 32)) = W1 at *
        clear c0 c1 k0 k1
        have HB2 := Lib.hid (HBr.out.tr HU.out)
        have HS2 := Lib.hid (HSr.out.up9 HU.out)
        refine (cCopyF (HO.out.up HU.out) hak).mono ?_
        rintro e wa3 ⟨u3, rfl, ho, b9⟩
        obtain ⟨av3, rfl, hto⟩ := ho.1
        obtain ⟨a3, q3, rfl⟩ := hto.tx.form
        obtain ⟨vs3, hr, hown⟩ := HS2.out.rows
        have hrow9 : ∀ g, (ov : Value).ownBlock = some g → W.heap.size ≤ g ∧ g < W1.heap.size := fun g hg => hown.lt g hg
        have hown1 := Lib.hid (owns_below hown b9)
        have HR1 := Lib.hid (hr.keep (Stays.of_below b9 (Nat.le_refl _)))
        have HT1 := Lib.hid hto
        have HB9 := Lib.hid (HB2.out.tr b9)
        have hm2 := b9.size
        have hm3 := HB2.out.size
        have hbase : W.heap.size ≤ (wa3.alloc (.cells #[.string x[k].rel, .slice a3 x[k].args.length q3] 32)).heap.size := by simp; omega
        have HN := Lib.hid (news2 (Blk.new wa3 32 #[.string x[k].rel, .slice a3 x[k].args.length q3]))
        clear ho hto hown hr b9
        go_wp2_with (at_builtin; refine wpList_append_own _ rfl _ _ 28 rfl W.heap.size 32 i0 _ 2 40 Tryd.underlying28 hi0 hz0 hz1 hz2 rfl (by decide) _ (insKF x f k).length (flatF (insKF x f k) vs3) rfl (hown1.out.alloc _) ⟨wa3.heap.size, 0, none⟩ 1 1 [.string x[k].rel, .slice a3 x[k].args.length q3] rfl rfl HN.out (one2 rfl rfl) (by unfold maxLen; omega) (by omega) hbase ?_; intro v3 wb3 hown' hgrow _)
        have HS3 : Hid (SO 9 32 wb3 W.heap.size wb3.heap.size v3 (insKF x f (k + 1))) := by
          show SO _ _ _ _ _ _ _
          rw [HM.out]
          exact SO.app1 (by decide) HR1.out hown1.out HT1.out (by omega) (by omega) (Nat.le_refl _) hown' hgrow
        have HB3 := Lib.hid ((HB9.out.al _).grown hgrow (fun g hg => (hrow9 g hg).1))
        clear hown' hgrow hown1 HR1 HT1 HB9 HN hbase hrow9 hm2 hm3
        go_wp2
        exact ⟨⟨_, _, k+1, true, rfl, rfl, by omega, by go_num, rfl, HD.out, HB3.out, HS3.out⟩, by simp [intOf]; omega⟩
    · have k0 := (KP.out.up HBr.out).cell0
      have k1 := (KP.out.up HBr.out).cell1
      cases dn
      · have HE : Hid (insKF x f k ++ [f] = insF x f) := insKF_end_n (by omega) HDN.out.symm
        have HB2 := HBr
        have HS2 := HSr
        go_wp2_with fail
        clear k0 k1
        refine (cCopyF (HF.out.up HBr.out) hfa).mono ?_
        rintro e wa3 ⟨u3, rfl, ho, b9⟩
        obtain ⟨av3, rfl, hto⟩ := ho.1
        obtain ⟨a3, q3, rfl⟩ := hto.tx.form
        obtain ⟨vs3, hr, hown⟩ := HS2.out.rows
        have hrow9 : ∀ g, (ov : Value).ownBlock = some g → W.heap.size ≤ g ∧ g < wr.heap.size := fun g hg => hown.lt g hg
        have hown1 := Lib.hid (owns_below hown b9)
        have HR1 := Lib.hid (hr.keep (Stays.of_below b9 (Nat.le_refl _)))
        have HT1 := Lib.hid hto
        have HB9 := Lib.hid (HB2.out.tr b9)
        have hm2 := b9.size
        have hm3 := HB2.out.size
        have hbase : W.heap.size ≤ (wa3.alloc (.cells #[.string f.rel, .slice a3 f.args.length q3] 32)).heap.size := by simp; omega
        have HN := Lib.hid (news2 (Blk.new wa3 32 #[.string f.rel, .slice a3 f.args.length q3]))
        clear ho hto hown hr b9
        go_wp2_with (at_builtin; refine wpList_append_own _ rfl _ _ 28 rfl W.heap.size 32 i0 _ 2 40 Tryd.underlying28 hi0 hz0 hz1 hz2 rfl (by decide) _ (insKF x f k).length (flatF (insKF x f k) vs3) rfl (hown1.out.alloc _) ⟨wa3.heap.size, 0, none⟩ 1 1 [.string f.rel, .slice a3 f.args.length q3] rfl rfl HN.out (one2 rfl rfl) (by unfold maxLen; omega) (by omega) hbase ?_; intro v3 wb3 hown' hgrow _)
        have HS3 : Hid (SO 9 32 wb3 W.heap.size wb3.heap.size v3 (insF x f)) := by
          show SO _ _ _ _ _ _ _
          rw [← HE.out]
          exact SO.app1 (by decide) HR1.out hown1.out HT1.out (by omega) (by omega) (Nat.le_refl _) hown' hgrow
        have HB3 := Lib.hid ((HB9.out.al _).grown hgrow (fun g hg => (hrow9 g hg).1))
        clear hown' hgrow hown1 HR1 HT1 HB9 HN hbase hrow9 hm2 hm3
        go_wp2
        go_ret
        exact ⟨_, rfl, ⟨HS3.out.mono9 hw0 (Nat.le_refl _), Nat.le_refl _⟩, HB.out.tr HB3.out⟩
      · have HE : Hid (insKF x f k = insF x f) := insKF_end_d (by omega) HDN.out.symm
        have hS := HSr.out
        rw [HE.out] at hS
        have HS1 := Lib.hid hS
        clear hS
        go_wp2
        go_ret
        exact ⟨_, rfl, ⟨HS1.out.mono9 hw0 (Nat.le_refl _), Nat.le_refl _⟩, HB.out.tr HBr.out⟩
end Go.Proofs.YtpjklnngigkkiaaDoor
