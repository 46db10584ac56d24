/- MatchingFacts, the program's and the reference's: the facts that match; wherever the lengths can be counted. -/
import Derived.Test.YtojgkodffmdnpaaMatch
import Derived.Test.YtojgkodffmdnpaaSl
import Derived.Test.YtojgkodffmdnpaaFw
namespace Go.Proofs.Ytojgkodffmdnpaa
open Go.RowKit
attribute [local go_sem ↓] Go.wp_at_zero Go.wp_at_succ
set_option linter.unusedVariables false
def mtO (p : FactV) (b : Prs) (f : FactV) : Bool := (mtV p f b).isSome
def mfsF (p : FactV) (b : Prs) (L : List FactV) : List FactV := L.filter (mtO p b)
theorem fssz_at' {L : List FactV} (h : fssz L ≤ 1048576) (k : Nat) (hk : k < L.length) : fsz L[k] ≤ 1048576 := by
  have := fsum_mem (List.getElem_mem hk); unfold fssz at h; omega
set_option maxHeartbeats 2000000 in
set_option maxRecDepth 100000 in
theorem cMatchFs {vp vb v : Value} {p : FactV} {y : Prs} {x : List FactV} {lo hi lo' hi' lo'' hi'' : Nat} {w : World} (hp : Ob AF w lo' hi' vp p) (hy : Ob SP w lo'' hi'' vb y) (h : Ob SF w lo hi v x) (zp : fsz p ≤ 1048576) (zy : psz y ≤ 1048576) (hz : fssz x ≤ 1048576) :
    Calls Try.prog 68 #[vp, vb, v] w fun e w' => ∃ v', e = .returned v' ∧ Ob (SO 9 79) w' w.heap.size w'.heap.size v' (mfsF p y x) ∧ Up w w' := by
  have hlen : x.length ≤ 1048576 := by unfold fssz at hz; omega
  have HZ := Lib.hid (fssz_arg hz)
  have HZ2 := Lib.hid (fssz_at' hz)
  clear hz
  obtain ⟨a, cap, rfl⟩ := h.1.form
  obtain ⟨pa, pc, rfl⟩ := hp.1.form
  obtain ⟨ya, yc, rfl⟩ := hy.1.form
  obtain ⟨i0, hi0, hz0, hz1, hz2⟩ := info_parts Try.infoFact
  have hb0 : Up w (w.alloc (.cells #[.string p.rel, .slice pa p.args.length pc] 30)) := Up.al1 _ _
  have HV := Lib.hid (h.up hb0)
  have HP := Lib.hid (hp.up hb0)
  have HY := Lib.hid (hy.up hb0)
  have KP := Lib.hid (Blk.new w 30 #[.string p.rel, .slice pa p.args.length pc])
  have HB := Lib.hid hb0
  clear h hp hy hb0
  go_enter Try.func68, Try.ntmps68
  go_wp2_with fail
  have hw0 : w.heap.size ≤ (w.alloc (.cells #[.string p.rel, .slice pa p.args.length pc] 30)).heap.size := HB.out.size
  have hws : (w.alloc (.cells #[.string p.rel, .slice pa p.args.length pc] 30)).heap.size = w.heap.size + 1 := by simp
  generalize (w.alloc (.cells #[.string p.rel, .slice pa p.args.length pc] 30)) = W at *
  have HWS := Lib.hid hws
  clear hws
  go_loopw [7, 14] (fun o i wr => ∃ (k : Nat), k ≤ x.length ∧ i = .int .i64 k ∧ Up W wr ∧ Hid (SO 9 79 wr W.heap.size wr.heap.size o ((x.take k).filter (mtO p y)))) (fun _ i _ => x.length - (intOf i).toNat)
  case atStart => exact ⟨0, Nat.zero_le _, rfl, Up.rf _, SO.nil_ _ _ _ _ _⟩
  case round =>
    obtain ⟨k, hk, rfl, hb, HSO⟩ := hrel
    by_cases hlt : k < x.length
    · obtain ⟨b, off, d, c, rfl, c0, c1, hA⟩ := SF.at (HV.out.up hb).1 hlt
      have HO : Hid (Ob AF wr lo hi (.agg #[.string x[k].rel, .slice d x[k].args.length c]) x[k]) := ⟨hA, Nat.le_trans HV.out.2 hb.size⟩
      clear hA
      have i1 : (0 : Int) ≤ (k : Int) := by omega
      have i2 : (k : Int) < (x.length : Int) := by omega
      have hzk := HZ2.out k hlt
      have hbs := hb.size
      have HU := Lib.hid (Up.al1 wr (.cells #[.string x[k].rel, .slice d x[k].args.length c] 79))
      have KX := Lib.hid (Blk.new wr 79 #[.string x[k].rel, .slice d x[k].args.length c])
      have k0 := ((KP.out.up hb).alloc (.cells #[.string x[k].rel, .slice d x[k].args.length c] 79)).cell0
      have k1 := ((KP.out.up hb).alloc (.cells #[.string x[k].rel, .slice d x[k].args.length c] 79)).cell1
      cases hq : (mtV p x[k] y).isSome
      · have HF : Hid ((x.take (k + 1)).filter (mtO p y) = (x.take k).filter (mtO p y)) := filter_take_f hlt hq
        go_wp2_with fail
        generalize (wr.alloc (.cells #[.string x[k].rel, .slice d x[k].args.length c] 79)) = W1 at *
        clear k0 k1 c0 c1
        have hb1 := hb.tr HU.out
        refine (cMatch (HP.out.up hb1) (HO.out.up HU.out) (HY.out.up hb1) zp hzk zy).mono ?_
        rintro e w1 ⟨u, rfl, -, b1⟩
        rw [hq]
        have HBW := Lib.hid (hb1.tr b1)
        have HBX := Lib.hid (HU.out.tr b1)
        have k0 := (KX.out.up b1).cell0
        have k1 := (KX.out.up b1).cell1
        clear b1 hb1 HU
        have hS2 := Lib.hid (HSO.out.up9 HBX.out)
        clear k0 k1
        go_wp2
        exact ⟨⟨k+1, by omega, by go_num, HBW.out, by have h := hS2.out; rw [← HF.out] at h; exact h⟩, by simp [intOf]; omega⟩
      · have HF : Hid ((x.take (k + 1)).filter (mtO p y) = (x.take k).filter (mtO p y) ++ [x[k]]) := filter_take_t hlt hq
        have HL := Lib.hid (filter_take_len x (mtO p y) k)
        go_wp2_with fail
        generalize (wr.alloc (.cells #[.string x[k].rel, .slice d x[k].args.length c] 79)) = W1 at *
        clear k0 k1 c0 c1
        have hb1 := hb.tr HU.out
        refine (cMatch (HP.out.up hb1) (HO.out.up HU.out) (HY.out.up hb1) zp hzk zy).mono ?_
        rintro e w1 ⟨u, rfl, -, b1⟩
        rw [hq]
        have HBW := Lib.hid (hb1.tr b1)
        have HBX := Lib.hid (HU.out.tr b1)
        have k0 := (KX.out.up b1).cell0
        have k1 := (KX.out.up b1).cell1
        clear b1 hb1 HU
        go_wp2_with fail
        clear k0 k1
        refine (cCopyF (HO.out.up HBX.out) (HZ.out k hlt)).mono ?_
        rintro e w2 ⟨u, rfl, ho, b2⟩
        obtain ⟨av, rfl, hto⟩ := ho.1
        obtain ⟨a1, q1, rfl⟩ := hto.tx.form
        obtain ⟨vs, hr, hown⟩ := HSO.out.rows
        have hw1 := HBX.out.tr b2
        have hown1 := Lib.hid (owns_below hown hw1)
        have HR1 := Lib.hid (hr.keep (Stays.of_below hw1 (Nat.le_refl _)))
        have hm1 : wr.heap.size ≤ w1.heap.size := HBX.out.size
        have hm2 := b2.size
        have HT := Lib.hid (hto.mono hm1 (Nat.le_refl _))
        have hbase : W.heap.size ≤ (w2.alloc (.cells #[.string x[k].rel, .slice a1 x[k].args.length q1] 79)).heap.size := by simp; omega
        have HB1 := Lib.hid (hb.tr hw1)
        have hlen2 : ((x.take k).filter (mtO p y)).length ≤ 1048576 := by have := HL.out; omega
        have HN := Lib.hid (news2 (Blk.new w2 79 #[.string x[k].rel, .slice a1 x[k].args.length q1]))
        clear ho hto hown hr b2 hw1 hb
        go_wp2_with (at_builtin; refine wpList_append_own _ rfl _ _ 45 rfl W.heap.size 79 i0 _ 2 40 Try.underlying45 hi0 hz0 hz1 hz2 rfl (by decide) _ ((x.take k).filter (mtO p y)).length (flatF ((x.take k).filter (mtO p y)) vs) rfl (hown1.out.alloc _) ⟨w2.heap.size, 0, none⟩ 1 1 [.string x[k].rel, .slice a1 x[k].args.length q1] rfl rfl HN.out (one2 rfl rfl) (by unfold maxLen; omega) (by omega) hbase ?_; intro v' w3 hown' hgrow _)
        have hS2 : Hid (SO 9 79 w3 W.heap.size w3.heap.size v' ((x.take (k + 1)).filter (mtO p y))) := by
          show SO _ _ _ _ _ _ _
          rw [HF.out]
          exact SO.app1 (by decide) HR1.out hown1.out HT.out (by omega) (by omega) (Nat.le_refl _) hown' hgrow
        have hb2 : Up W w3 := (HB1.out.al _).grown hgrow (fun g hg => (hown1.out.lt g hg).1)
        clear hown' hgrow hown1 HR1 HT HB1 HSO HN
        go_wp2
        exact ⟨⟨k+1, by omega, by go_num, hb2, hS2.out⟩, by simp [intOf]; omega⟩
    · go_wp2
      go_ret
      have e : (x.take k).filter (mtO p y) = mfsF p y x := by rw [List.take_of_length_le (by omega)]; rfl
      exact ⟨_, rfl, ⟨by rw [← e]; exact HSO.out.mono9 hw0 (Nat.le_refl _), Nat.le_refl _⟩, HB.out.tr hb⟩
set_option maxHeartbeats 2000000 in
set_option maxRecDepth 100000 in
theorem cMatchFsS {vp vb v : Value} {p : FactV} {y : Prs} {x : List FactV} {lo hi lo' hi' lo'' hi'' : Nat} {w : World} (hp : Ob AF w lo' hi' vp p) (hy : Ob SP w lo'' hi'' vb y) (h : Ob SF w lo hi v x) (zp : fsz p ≤ 1048576) (zy : psz y ≤ 1048576) (hz : fssz x ≤ 1048576) :
    Calls Try.prog 67 #[vp, vb, v] w fun e w' => ∃ v', e = .returned v' ∧ Ob (SO 9 79) w' w.heap.size w'.heap.size v' (mfsF p y x) ∧ Up w w' := by
  have hlen : x.length ≤ 1048576 := by unfold fssz at hz; omega
  have HZ := Lib.hid (fssz_arg hz)
  have HZ2 := Lib.hid (fssz_at' hz)
  clear hz
  obtain ⟨a, cap, rfl⟩ := h.1.form
  obtain ⟨pa, pc, rfl⟩ := hp.1.form
  obtain ⟨ya, yc, rfl⟩ := hy.1.form
  obtain ⟨i0, hi0, hz0, hz1, hz2⟩ := info_parts Try.infoFact
  have hb0 : Up w (w.alloc (.cells #[.string p.rel, .slice pa p.args.length pc] 30)) := Up.al1 _ _
  have HV := Lib.hid (h.up hb0)
  have HP := Lib.hid (hp.up hb0)
  have HY := Lib.hid (hy.up hb0)
  have KP := Lib.hid (Blk.new w 30 #[.string p.rel, .slice pa p.args.length pc])
  have HB := Lib.hid hb0
  clear h hp hy hb0
  go_enter Try.func67, Try.ntmps67
  go_wp2_with fail
  have hw0 : w.heap.size ≤ (w.alloc (.cells #[.string p.rel, .slice pa p.args.length pc] 30)).heap.size := HB.out.size
  have hws : (w.alloc (.cells #[.string p.rel, .slice pa p.args.length pc] 30)).heap.size = w.heap.size + 1 := by simp
  generalize (w.alloc (.cells #[.string p.rel, .slice pa p.args.length pc] 30)) = W at *
  have HWS := Lib.hid hws
  clear hws
  go_loopw [7, 8] (fun o i wr => ∃ (k : Nat), k ≤ x.length ∧ i = .int .i64 k ∧ Up W wr ∧ Hid (SO 9 79 wr W.heap.size wr.heap.size o ((x.take k).filter (mtO p y)))) (fun _ i _ => x.length - (intOf i).toNat)
  case atStart => exact ⟨0, Nat.zero_le _, rfl, Up.al1 _ _, SO.made9 _ _ _ HWS.out⟩
  case round =>
    obtain ⟨k, hk, rfl, hb, HSO⟩ := hrel
    by_cases hlt : k < x.length
    · obtain ⟨b, off, d, c, rfl, c0, c1, hA⟩ := SF.at (HV.out.up hb).1 hlt
      have HO : Hid (Ob AF wr lo hi (.agg #[.string x[k].rel, .slice d x[k].args.length c]) x[k]) := ⟨hA, Nat.le_trans HV.out.2 hb.size⟩
      clear hA
      have i1 : (0 : Int) ≤ (k : Int) := by omega
      have i2 : (k : Int) < (x.length : Int) := by omega
      have hzk := HZ2.out k hlt
      have hbs := hb.size
      have HU := Lib.hid (Up.rf wr)
      have k0 := (KP.out.up hb).cell0
      have k1 := (KP.out.up hb).cell1
      cases hq : (mtV p x[k] y).isSome
      · have HF : Hid ((x.take (k + 1)).filter (mtO p y) = (x.take k).filter (mtO p y)) := filter_take_f hlt hq
        go_wp2_with fail
        go_region_held3 (fun w' => w'.cell? ⟨w.heap.size, 0, none⟩ = some (.string p.rel) ∧ w'.cell? ⟨w.heap.size, 1, none⟩ = some (.slice pa p.args.length pc) ∧ w'.cell? ⟨b, off + k * 2, none⟩ = some (.string x[k].rel) ∧ w'.cell? ⟨b, off + k * 2 + 1, none⟩ = some (.slice d x[k].args.length c) ∧ Up wr w')
          (first | exact ⟨k0, k1, c0, c1, (Up.rf _).dr⟩ | (have hh := ‹_ ∧ _ ∧ _ ∧ _ ∧ _›; have hb := ‹Up _ _›; exact ⟨keepCell hb hh.1, keepCell hb hh.2.1, keepCell hb hh.2.2.1, keepCell hb hh.2.2.2.1, hh.2.2.2.2.tr hb⟩))
          (first | (go_at_call 56; have hh := ‹_ ∧ _ ∧ _ ∧ _ ∧ _›; have b6 := hh.2.2.2.2; (with_reducible refine (cMatchS (HP.out.up (hb.tr hh.2.2.2.2)) (HO.out.up hh.2.2.2.2) (HY.out.up (hb.tr hh.2.2.2.2)) zp hzk zy).mono ?_); clear hh; rintro e w1 ⟨u, rfl, -, b1⟩; rw [hq]))
        have HBX := Lib.hid (Up.tr b6 b1)
        have HBW := Lib.hid (hb.tr HBX.out)
        have k0 := keepCell HBX.out c0
        have k1 := keepCell HBX.out c1
        clear b1 b6 HU c0 c1
        have hS2 := Lib.hid (HSO.out.up9 HBX.out)
        clear k0 k1
        go_wp2
        exact ⟨⟨k+1, by omega, by go_num, HBW.out, by have h := hS2.out; rw [← HF.out] at h; exact h⟩, by simp [intOf]; omega⟩
      · have HF : Hid ((x.take (k + 1)).filter (mtO p y) = (x.take k).filter (mtO p y) ++ [x[k]]) := filter_take_t hlt hq
        have HL := Lib.hid (filter_take_len x (mtO p y) k)
        go_wp2_with fail
        go_region_held3 (fun w' => w'.cell? ⟨w.heap.size, 0, none⟩ = some (.string p.rel) ∧ w'.cell? ⟨w.heap.size, 1, none⟩ = some (.slice pa p.args.length pc) ∧ w'.cell? ⟨b, off + k * 2, none⟩ = some (.string x[k].rel) ∧ w'.cell? ⟨b, off + k * 2 + 1, none⟩ = some (.slice d x[k].args.length c) ∧ Up wr w')
          (first | exact ⟨k0, k1, c0, c1, (Up.rf _).dr⟩ | (have hh := ‹_ ∧ _ ∧ _ ∧ _ ∧ _›; have hb := ‹Up _ _›; exact ⟨keepCell hb hh.1, keepCell hb hh.2.1, keepCell hb hh.2.2.1, keepCell hb hh.2.2.2.1, hh.2.2.2.2.tr hb⟩))
          (first | (go_at_call 56; have hh := ‹_ ∧ _ ∧ _ ∧ _ ∧ _›; have b6 := hh.2.2.2.2; (with_reducible refine (cMatchS (HP.out.up (hb.tr hh.2.2.2.2)) (HO.out.up hh.2.2.2.2) (HY.out.up (hb.tr hh.2.2.2.2)) zp hzk zy).mono ?_); clear hh; rintro e w1 ⟨u, rfl, -, b1⟩; rw [hq]))
        have HBX := Lib.hid (Up.tr b6 b1)
        have HBW := Lib.hid (hb.tr HBX.out)
        have k0 := keepCell HBX.out c0
        have k1 := keepCell HBX.out c1
        clear b1 b6 HU c0 c1
        go_wp2_with fail
        clear k0 k1
        refine (cCopyFS (HO.out.up HBX.out) (HZ.out k hlt)).mono ?_
        rintro e w2 ⟨u, rfl, ho, b2⟩
        obtain ⟨av, rfl, hto⟩ := ho.1
        obtain ⟨a1, q1, rfl⟩ := hto.tx.form
        obtain ⟨vs, hr, hown⟩ := HSO.out.rows
        have hw1 := HBX.out.tr b2
        have hown1 := Lib.hid (owns_below hown hw1)
        have HR1 := Lib.hid (hr.keep (Stays.of_below hw1 (Nat.le_refl _)))
        have hm1 : wr.heap.size ≤ w1.heap.size := HBX.out.size
        have hm2 := b2.size
        have HT := Lib.hid (hto.mono hm1 (Nat.le_refl _))
        have hbase : W.heap.size ≤ (w2.alloc (.cells #[.string x[k].rel, .slice a1 x[k].args.length q1] 79)).heap.size := by simp; omega
        have HB1 := Lib.hid (hb.tr hw1)
        have hlen2 : ((x.take k).filter (mtO p y)).length ≤ 1048576 := by have := HL.out; omega
        have HN := Lib.hid (news2 (Blk.new w2 79 #[.string x[k].rel, .slice a1 x[k].args.length q1]))
        clear ho hto hown hr b2 hw1 hb
        go_wp2_with (at_builtin; refine wpList_append_own _ rfl _ _ 45 rfl W.heap.size 79 i0 _ 2 40 Try.underlying45 hi0 hz0 hz1 hz2 rfl (by decide) _ ((x.take k).filter (mtO p y)).length (flatF ((x.take k).filter (mtO p y)) vs) rfl (hown1.out.alloc _) ⟨w2.heap.size, 0, none⟩ 1 1 [.string x[k].rel, .slice a1 x[k].args.length q1] rfl rfl HN.out (one2 rfl rfl) (by unfold maxLen; omega) (by omega) hbase ?_; intro v' w3 hown' hgrow _)
        have hS2 : Hid (SO 9 79 w3 W.heap.size w3.heap.size v' ((x.take (k + 1)).filter (mtO p y))) := by
          show SO _ _ _ _ _ _ _
          rw [HF.out]
          exact SO.app1 (by decide) HR1.out hown1.out HT.out (by omega) (by omega) (Nat.le_refl _) hown' hgrow
        have hb2 : Up W w3 := (HB1.out.al _).grown hgrow (fun g hg => (hown1.out.lt g hg).1)
        clear hown' hgrow hown1 HR1 HT HB1 HSO HN
        go_wp2
        exact ⟨⟨k+1, by omega, by go_num, hb2, hS2.out⟩, by simp [intOf]; omega⟩
    · go_wp2
      go_ret
      have e : (x.take k).filter (mtO p y) = mfsF p y x := by rw [List.take_of_length_le (by omega)]; rfl
      exact ⟨_, rfl, ⟨by rw [← e]; exact HSO.out.mono9 hw0 (Nat.le_refl _), Nat.le_refl _⟩, HB.out.tr hb⟩
end Go.Proofs.Ytojgkodffmdnpaa
