/- A fact put into ascending ones, the reference's way: copies of all; wherever the lengths can be counted. -/
import Derived.Deep.DeepCutAuto
import Derived.BigQuiet
import Derived.Test.YtgpgeegpaaoakaaDoorOrd
import Derived.Test.YtgpgeegpaaoakaaDoorCopy
import Derived.Test.YtgpgeegpaaoakaaDoorCmpF
import Derived.Test.YtgpgeegpaaoakaaDoorApp
namespace Go.Proofs.YtgpgeegpaaoakaaDoor
open Go.RowKit
theorem Tryd.infoFactP : (Tryd.prog.info? 26).map (fun i => (i.zero, i.size, i.bytes)) = some (some (.agg #[.string ByteArray.empty, .slice none 0 0]), 2, 40) := by kernel_rfl
attribute [local go_sem ↓] Go.wp_at_zero Go.wp_at_succ
set_option linter.unusedVariables false
theorem SO.lower {E EF : TypeId} {w : World} {lo lo' hi : Nat} {v : Value} {L : List FactV} (h : SO E EF w lo hi v L) (hh : hi = w.heap.size) (hl : lo' ≤ lo) : SO E EF w lo' hi v L := by
  obtain ⟨vs, hr, ho⟩ := h.rows
  exact SO.mk_ (ho.mono hl) (fun g hg => by have := (ho.lt g hg).2; omega) (hr.mono hl (Nat.le_refl _))
theorem hupN (w : World) (n : Nat) : Up w (w.drewN n) := by
  exact below_drewN (Up.rf w) n
theorem SO.rf_ {E EF : TypeId} {w w' : World} {lo : Nat} {v : Value} {L : List FactV} (h : SO E EF w lo w.heap.size v L) (hu : Up w w') : SO E EF w' lo w'.heap.size v L := by
  obtain ⟨vs, hr, ho⟩ := h.rows
  exact SO.mk_ (owns_below ho hu) (fun g hg => by have := (ho.lt g hg).2; have := hu.size; omega) ((hr.keep (Stays.of_below hu (Nat.le_refl _))).mono (Nat.le_refl _) hu.size)
theorem fsz_args {f : FactV} (h : fsz f ≤ 1048576) : f.args.length ≤ 4194304 := by unfold fsz tsz at h; omega
set_option maxHeartbeats 8000000 in
set_option maxRecDepth 100000 in
theorem cl2Put {v u : Value} {x : List FactV} {f : FactV} {lo hi lo' hi' : Nat} {w : World} (h : Ob SF w lo hi v x) (h' : Ob AF w lo' hi' u f) (hz : fssz x ≤ 1048576) (hzf : fsz f ≤ 1048576) :
    Calls Tryd.prog 30 #[v, u] w fun e w' => ∃ v', e = .returned v' ∧ Ob (SO 9 26) w' w.heap.size w'.heap.size v' (putF x f) ∧ Up w w' := by
  have hsz := Lib.hid (fssz_at hz)
  have hlen : x.length ≤ 1048576 := by unfold fssz at hz; omega
  have hfa := fsz_args hzf
  clear hz
  obtain ⟨a, cap, rfl⟩ := h.1.form
  obtain ⟨fa, fc, rfl⟩ := h'.1.form
  obtain ⟨i0, hi0, hz0, hz1, hz2⟩ := info_parts Tryd.infoFactP
  have HV := Lib.hid h
  have HF := Lib.hid h'
  have HBs := Lib.hid (show Up w ((w.alloc (.cells #[.string f.rel, .slice fa f.args.length fc] 26)).alloc (.cells #[] 26)) from (Up.al1 _ _).al _)
  have HKs := Lib.hid (show Blk ((w.alloc (.cells #[.string f.rel, .slice fa f.args.length fc] 26)).alloc (.cells #[] 26)) w.heap.size 26 #[.string f.rel, .slice fa f.args.length fc] from (Blk.new w 26 #[.string f.rel, .slice fa f.args.length fc]).alloc _)
  have HSs := Lib.hid (SO.made_ 9 26 (w.alloc (.cells #[.string f.rel, .slice fa f.args.length fc] 26)))
  have hws : (w.alloc (.cells #[.string f.rel, .slice fa f.args.length fc] 26)).heap.size = w.heap.size + 1 := by simp
  rw [hws] at HSs
  clear h h'
  go_enter Tryd.func30, Tryd.ntmps30
  go_wp2_with fail
  go_loopw [5, 6, 7] (fun o d i wz => ∃ (ov : Value) (wr : World) (k : Nat) (dn : Bool), ov = o ∧ wr = wz ∧ k ≤ x.length ∧ i = .int .i64 k ∧ d = .bool dn ∧ Hid (dn = putDF x f k) ∧ Hid (Up w wr) ∧ Hid (Blk wr w.heap.size 26 #[.string f.rel, .slice fa f.args.length fc]) ∧ Hid (SO 9 26 wr (w.heap.size + 1) wr.heap.size ov (putKF x f k))) (fun _ _ i _ => x.length - (intOf i).toNat)
  case atStart => exact ⟨_, _, 0, false, rfl, rfl, Nat.zero_le _, rfl, rfl, (putDF_0 x f).symm, HBs.out, HKs.out, by show SO _ _ _ _ _ _ _; rw [putKF_0]; exact HSs.out⟩
  case round =>
    clear HBs HKs HSs hws
    obtain ⟨ov, wr, k, dn, rfl, rfl, hk, rfl, rfl, HDN, HB, HK, HS⟩ := hrel
    have i1 : (0 : Int) ≤ (k : Int) := by omega
    have hln := putKF_len x f k
    by_cases hlt : k < x.length
    · have i2 : (k : Int) < (x.length : Int) := by omega
      have hzk := hsz.out k hlt
      have hak := fsz_args hzk
      go_upto_region 6 with fail
      have hr6 := HK.out.lt
      go_cut [25] from 9 to 45 (fun s25 wy => ∃ (wx : World) (bb : Bool), wx = wy ∧ s25 = .bool bb ∧ bb = (!dn && decide (0 ≤ cmpF x[k] f)) ∧ Hid (Up w wx) ∧ Hid (Blk wx w.heap.size 26 #[.string f.rel, .slice fa f.args.length fc]) ∧ Hid (SO 9 26 wx (w.heap.size + 1) wx.heap.size ov (putKF x f k)))
      case first =>
        cases dn
        · obtain ⟨b, off, d, c, rfl, c0, c1, hA⟩ := SF.at (HV.out.up HB.out).1 hlt
          have HO : Hid (Ob AF wr lo hi (.agg #[.string x[k].rel, .slice d x[k].args.length c]) x[k]) := ⟨hA, Nat.le_trans HV.out.2 HB.out.size⟩
          have HFr := Lib.hid (HF.out.up HB.out)
          have g0 : wr.cell? ⟨w.heap.size, 0, none⟩ = some (.string f.rel) := HK.out.cell 0
          have g1 : wr.cell? ⟨w.heap.size, 1, none⟩ = some (.slice fa f.args.length fc) := HK.out.cell 1
          go_region_with (go_at_call 37; refine (cCmpFactsS (HO.out.up (by first | exact (Up.rf _).dr | exact Up.rf _ | exact below_drewN (Up.rf _) _ | exact (Up.rf _).dr.dr)) (HFr.out.up (by first | exact (Up.rf _).dr | exact Up.rf _ | exact below_drewN (Up.rf _) _ | exact (Up.rf _).dr.dr)) hzk hzf).mono ?_; rintro e w1 ⟨rfl, b1⟩; have b2 : Up wr w1 := (by first | exact (Up.rf wr).dr.tr b1 | exact (Up.rf wr).tr b1 | exact (below_drewN (Up.rf wr) _).tr b1 | exact (Up.rf wr).dr.dr.tr b1); clear b1)
          all_goals
            go_wp2_with fail
            go_meet
            case rel => exact ⟨_, _, rfl, rfl, rfl, HB.out.tr b2, HK.out.up b2, HS.out.rf_ b2⟩
        · go_quiet (fail)
          all_goals
            go_wp2_with fail
            go_meet
            case rel => exact ⟨_, _, rfl, rfl, rfl, HB.out.tr (hupN _ _), HK.out.up (hupN _ _), HS.out.rf_ (hupN _ _)⟩
      case rest =>
        obtain ⟨wx, bb, rfl, rfl, hbb, HB2, HK2, HS2⟩ := hcut
        clear HB HK HS
        have HB := HB2; have HK := HK2; have HS := HS2
        clear HB2 HK2 HS2 hr6
        go_upto_if 25 with fail
        go_cut [5, 6] from 9 to 45 (fun s5 s6 wy => ∃ (wx : World) (dn' : Bool) (M : List FactV), wx = wy ∧ s6 = .bool dn' ∧ Hid (dn' = putDF x f (k + 1)) ∧ Hid (putKF x f (k + 1) = M ++ [x[k]]) ∧ M.length ≤ k + 2 ∧ Hid (Up w wx) ∧ Hid (Blk wx w.heap.size 26 #[.string f.rel, .slice fa f.args.length fc]) ∧ Hid (SO 9 26 wx (w.heap.size + 1) wx.heap.size s5 M))
        case first =>
          cases bb
          · have hnx : putKF x f (k + 1) = putKF x f k ++ [x[k]] ∧ putDF x f (k + 1) = dn := by
              cases dn with
              | true => exact ⟨putKF_d hlt HDN.out.symm, putDF_d hlt HDN.out.symm⟩
              | false =>
                have hl : cmpF x[k] f < 0 := by
                  have h9 : decide (0 ≤ cmpF x[k] f) = false := hbb.symm
                  have := of_decide_eq_false h9
                  omega
                exact putKF_lt hlt HDN.out.symm hl
            go_wp2_with fail
            go_meet
            case rel => exact ⟨_, dn, _, rfl, rfl, hnx.2.symm, hnx.1, by omega, HB.out, HK.out, HS.out⟩
          · have hdn : dn = false := by cases dn with | false => rfl | true => exact absurd hbb (by simp)
            subst hdn
            have h9 : decide (0 ≤ cmpF x[k] f) = true := hbb.symm
            have h8 := of_decide_eq_true h9
            have hge := putKF_ge hlt HDN.out.symm (by omega)
            clear hbb h9
            obtain ⟨b, off, d, c, rfl, c0, c1, hA⟩ := SF.at (HV.out.up HB.out).1 hlt
            have HO : Hid (Ob AF wx lo hi (.agg #[.string x[k].rel, .slice d x[k].args.length c]) x[k]) := ⟨hA, Nat.le_trans HV.out.2 HB.out.size⟩
            have HFr := Lib.hid (HF.out.up HB.out)
            have g0 : wx.cell? ⟨w.heap.size, 0, none⟩ = some (.string f.rel) := HK.out.cell 0
            have g1 : wx.cell? ⟨w.heap.size, 1, none⟩ = some (.slice fa f.args.length fc) := HK.out.cell 1
            go_upto_region 8 with fail
            go_region_with (go_at_call 37; refine (cCmpFactsS (HO.out.up (by first | exact (Up.rf _).dr | exact Up.rf _ | exact below_drewN (Up.rf _) _ | exact (Up.rf _).dr.dr)) (HFr.out.up (by first | exact (Up.rf _).dr | exact Up.rf _ | exact below_drewN (Up.rf _) _ | exact (Up.rf _).dr.dr)) hzk hzf).mono ?_; rintro e w1 ⟨rfl, b1⟩; have b2 : Up wx w1 := (by first | exact (Up.rf wx).dr.tr b1 | exact (Up.rf wx).tr b1 | exact (below_drewN (Up.rf wx) _).tr b1 | exact (Up.rf wx).dr.dr.tr b1); clear b1)
            all_goals
              have HB3 := Lib.hid (HB.out.tr b2)
              have HK3 := Lib.hid (HK.out.up b2)
              have HS3 := Lib.hid (HS.out.rf_ b2)
              clear HB HK HS HO HFr b2
              have HB := HB3; have HK := HK3; have HS := HS3
              clear HB3 HK3 HS3
              by_cases hg : 0 < cmpF x[k] f
              · have hd : decide (0 < cmpF x[k] f) = true := decide_eq_true hg
                rw [if_neg (by omega)] at hge
                have k0 : w1.cell? ⟨w.heap.size, 0, none⟩ = some (.string f.rel) := HK.out.cell 0
                have k1 : w1.cell? ⟨w.heap.size, 1, none⟩ = some (.slice fa f.args.length fc) := HK.out.cell 1
                have hzx := HK.out.lt
                go_wp2_with fail
                refine (cCopyFS (HF.out.up HB.out) hfa).mono ?_
                rintro e w1 ⟨u1, rfl, ho, b1⟩
                obtain ⟨av1, rfl, hto⟩ := ho.1
                obtain ⟨a1, q1, rfl⟩ := hto.tx.form
                obtain ⟨vs, hr, hown⟩ := HS.out.rows
                have hown1 := Lib.hid (owns_below hown b1)
                have HR1 := Lib.hid (hr.keep (Stays.of_below b1 (Nat.le_refl _)))
                have HT1 := Lib.hid hto
                have HB1 := Lib.hid (HB.out.tr b1)
                have HK1 := Lib.hid (HK.out.up b1)
                have hm2 := b1.size
                have hbase : (w.heap.size + 1) ≤ (w1.alloc (.cells #[.string f.rel, .slice a1 f.args.length q1] 26)).heap.size := by simp; omega
                have HN := Lib.hid (news2 (Blk.new w1 26 #[.string f.rel, .slice a1 f.args.length q1]))
                clear ho hto hown hr b1 k0 k1
                go_wp2_with (at_builtin; refine wpList_append_own _ rfl _ _ 29 rfl (w.heap.size + 1) 26 i0 _ 2 40 Tryd.underlying29 hi0 hz0 hz1 hz2 rfl (by decide) _ (putKF x f k).length (flatF (putKF x f k) vs) rfl (hown1.out.alloc _) ⟨w1.heap.size, 0, none⟩ 1 1 [.string f.rel, .slice a1 f.args.length q1] rfl rfl HN.out (one2 rfl rfl) (by unfold maxLen; omega) (by omega) hbase ?_; intro v2 w2 hown' hgrow _)
                have HS2 : Hid (SO 9 26 w2 (w.heap.size + 1) w2.heap.size v2 (putKF x f k ++ [f])) := by
                  show SO _ _ _ _ _ _ _
                  skip
                  exact SO.app1 (by decide) HR1.out hown1.out HT1.out (by omega) hm2 (Nat.le_refl _) hown' hgrow
                have HB2 := Lib.hid ((HB1.out.al _).grown hgrow (fun g hg => by have := (hown1.out.lt g hg).1; omega))
                have HK2 : Hid (Blk w2 w.heap.size 26 #[.string f.rel, .slice fa f.args.length fc]) := (hgrow.block w.heap.size (HK1.out.alloc _).lt (fun h => by have := (hown1.out.lt _ h.symm).1; omega)).trans (HK1.out.alloc _)
                have hz2s : w.heap.size < w2.heap.size := HK2.out.lt
                clear hown' hgrow hown1 HR1 HT1 HB1 HK1 HN HS HK HB hbase
                go_wp2_with fail
                go_meet
                case rel => exact ⟨_, true, _, rfl, rfl, hge.2.symm, hge.1, by simp; omega, HB2.out, HK2.out, HS2.out⟩
              · have hd : decide (0 < cmpF x[k] f) = false := decide_eq_false hg
                rw [if_pos (by omega)] at hge
                go_wp2_with fail
                go_meet
                case rel => exact ⟨_, true, _, rfl, rfl, hge.2.symm, hge.1, by omega, HB.out, HK.out, HS.out⟩
        case rest =>
          obtain ⟨wx2, dn2, M, rfl, rfl, HD2, HM, hml, HB2, HK2, HS2⟩ := hcut
          clear HB HK HS HDN hbb
          have HB := HB2; have HK := HK2; have HS := HS2
          clear HB2 HK2 HS2
          have hzx := HK.out.lt
          obtain ⟨b, off, d, c, rfl, c0, c1, hA⟩ := SF.at (HV.out.up HB.out).1 hlt
          have HO : Hid (Ob AF wx2 lo hi (.agg #[.string x[k].rel, .slice d x[k].args.length c]) x[k]) := ⟨hA, Nat.le_trans HV.out.2 HB.out.size⟩
          clear hA
          go_wp2_with fail
          refine (cCopyFS HO.out hak).mono ?_
          rintro e w1 ⟨u1, rfl, ho, b1⟩
          obtain ⟨av1, rfl, hto⟩ := ho.1
          obtain ⟨a1, q1, rfl⟩ := hto.tx.form
          obtain ⟨vs, hr, hown⟩ := HS.out.rows
          have hown1 := Lib.hid (owns_below hown b1)
          have HR1 := Lib.hid (hr.keep (Stays.of_below b1 (Nat.le_refl _)))
          have HT1 := Lib.hid hto
          have HB1 := Lib.hid (HB.out.tr b1)
          have HK1 := Lib.hid (HK.out.up b1)
          have hm2 := b1.size
          have hbase : (w.heap.size + 1) ≤ (w1.alloc (.cells #[.string x[k].rel, .slice a1 x[k].args.length q1] 26)).heap.size := by simp; omega
          have HN := Lib.hid (news2 (Blk.new w1 26 #[.string x[k].rel, .slice a1 x[k].args.length q1]))
          clear ho hto hown hr b1 c0 c1
          go_wp2_with (at_builtin; refine wpList_append_own _ rfl _ _ 29 rfl (w.heap.size + 1) 26 i0 _ 2 40 Tryd.underlying29 hi0 hz0 hz1 hz2 rfl (by decide) _ (M).length (flatF (M) vs) rfl (hown1.out.alloc _) ⟨w1.heap.size, 0, none⟩ 1 1 [.string x[k].rel, .slice a1 x[k].args.length q1] rfl rfl HN.out (one2 rfl rfl) (by unfold maxLen; omega) (by omega) hbase ?_; intro v2 w2 hown' hgrow _)
          have HS2 : Hid (SO 9 26 w2 (w.heap.size + 1) w2.heap.size v2 (putKF x f (k + 1))) := by
            show SO _ _ _ _ _ _ _
            rw [HM.out]
            exact SO.app1 (by decide) HR1.out hown1.out HT1.out (by omega) hm2 (Nat.le_refl _) hown' hgrow
          have HB2 := Lib.hid ((HB1.out.al _).grown hgrow (fun g hg => by have := (hown1.out.lt g hg).1; omega))
          have HK2 : Hid (Blk w2 w.heap.size 26 #[.string f.rel, .slice fa f.args.length fc]) := (hgrow.block w.heap.size (HK1.out.alloc _).lt (fun h => by have := (hown1.out.lt _ h.symm).1; omega)).trans (HK1.out.alloc _)
          have hz2s : w.heap.size < w2.heap.size := HK2.out.lt
          clear hown' hgrow hown1 HR1 HT1 HB1 HK1 HN HS HK HB hbase
          go_wp2
          exact ⟨⟨_, _, k+1, _, rfl, rfl, by omega, by go_num, rfl, HD2.out, HB2.out, HK2.out, HS2.out⟩, by simp [intOf]; omega⟩
    · cases dn
      · have HE : Hid (putKF x f k ++ [f] = putF x f) := putKF_end_n (by omega) HDN.out.symm
        have g0 : wr.cell? ⟨w.heap.size, 0, none⟩ = some (.string f.rel) := HK.out.cell 0
        have g1 : wr.cell? ⟨w.heap.size, 1, none⟩ = some (.slice fa f.args.length fc) := HK.out.cell 1
        have hzx := HK.out.lt
        go_wp2_with fail
        refine (cCopyFS (HF.out.up HB.out) hfa).mono ?_
        rintro e w1 ⟨u1, rfl, ho, b1⟩
        obtain ⟨av1, rfl, hto⟩ := ho.1
        obtain ⟨a1, q1, rfl⟩ := hto.tx.form
        obtain ⟨vs, hr, hown⟩ := HS.out.rows
        have hown1 := Lib.hid (owns_below hown b1)
        have HR1 := Lib.hid (hr.keep (Stays.of_below b1 (Nat.le_refl _)))
        have HT1 := Lib.hid hto
        have HB1 := Lib.hid (HB.out.tr b1)
        have HK1 := Lib.hid (HK.out.up b1)
        have hm2 := b1.size
        have hbase : (w.heap.size + 1) ≤ (w1.alloc (.cells #[.string f.rel, .slice a1 f.args.length q1] 26)).heap.size := by simp; omega
        have HN := Lib.hid (news2 (Blk.new w1 26 #[.string f.rel, .slice a1 f.args.length q1]))
        clear ho hto hown hr b1 g0 g1
        go_wp2_with (at_builtin; refine wpList_append_own _ rfl _ _ 29 rfl (w.heap.size + 1) 26 i0 _ 2 40 Tryd.underlying29 hi0 hz0 hz1 hz2 rfl (by decide) _ (putKF x f k).length (flatF (putKF x f k) vs) rfl (hown1.out.alloc _) ⟨w1.heap.size, 0, none⟩ 1 1 [.string f.rel, .slice a1 f.args.length q1] rfl rfl HN.out (one2 rfl rfl) (by unfold maxLen; omega) (by omega) hbase ?_; intro v2 w2 hown' hgrow _)
        have HS2 : Hid (SO 9 26 w2 (w.heap.size + 1) w2.heap.size v2 (putF x f)) := by
          show SO _ _ _ _ _ _ _
          rw [← HE.out]
          exact SO.app1 (by decide) HR1.out hown1.out HT1.out (by omega) hm2 (Nat.le_refl _) hown' hgrow
        have HB2 := Lib.hid ((HB1.out.al _).grown hgrow (fun g hg => by have := (hown1.out.lt g hg).1; omega))
        have HK2 : Hid (Blk w2 w.heap.size 26 #[.string f.rel, .slice fa f.args.length fc]) := (hgrow.block w.heap.size (HK1.out.alloc _).lt (fun h => by have := (hown1.out.lt _ h.symm).1; omega)).trans (HK1.out.alloc _)
        have hz2s : w.heap.size < w2.heap.size := HK2.out.lt
        clear hown' hgrow hown1 HR1 HT1 HB1 HK1 HN HS HK HB hbase
        go_wp2
        go_ret
        exact ⟨_, rfl, ⟨HS2.out.lower rfl (by omega), Nat.le_refl _⟩, HB2.out⟩
      · have HE : Hid (putKF x f k = putF x f) := putKF_end_d (by omega) HDN.out.symm
        have hS := HS.out
        rw [HE.out] at hS
        have HS1 := Lib.hid hS
        clear hS
        go_wp2
        go_ret
        exact ⟨_, rfl, ⟨HS1.out.lower rfl (by omega), Nat.le_refl _⟩, HB.out⟩
end Go.Proofs.YtgpgeegpaaoakaaDoor
