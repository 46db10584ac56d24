/- Lists of facts copied, all of them or all but one; wherever the lengths can be counted. -/
import Derived.Test.YtpjklnngigkkiaaDoorMFs
import Derived.Test.YtpjklnngigkkiaaDoorOrd
namespace Go.Proofs.YtpjklnngigkkiaaDoor
open Go.RowKit
attribute [local go_sem ↓] Go.wp_at_zero Go.wp_at_succ
set_option linter.unusedVariables false
def neF (f y : FactV) : Bool := !sameFB y f
theorem rmF_ne (L : List FactV) (f : FactV) : L.filter (neF f) = rmF L f := rfl
theorem take_succ9 {L : List FactV} {k : Nat} (h : k < L.length) : L.take (k + 1) = L.take k ++ [L[k]] := List.take_succ_eq_append_getElem h
set_option maxHeartbeats 2000000 in
set_option maxRecDepth 100000 in
theorem cCopyFs {v : Value} {x : List FactV} {lo hi : Nat} {w : World} (h : Ob SF w lo hi v x) (hz : fssz x ≤ 1048576) :
    Calls Tryd.prog 58 #[v] w fun e w' => ∃ v', e = .returned v' ∧ Ob (SO 9 32) w' w.heap.size w'.heap.size v' x ∧ Up w w' := by
  have hlen : x.length ≤ 1048576 := by unfold fssz at hz; omega
  have HZ := Lib.hid (fssz_arg hz)
  clear hz
  obtain ⟨a, cap, rfl⟩ := h.1.form
  obtain ⟨i0, hi0, hz0, hz1, hz2⟩ := info_parts Tryd.infoFact
  have HV := Lib.hid h
  clear h
  go_enter Tryd.func58, Tryd.ntmps58
  go_wp2_with fail
  go_loopw [3, 8] (fun o i wr => ∃ (k : Nat), k ≤ x.length ∧ i = .int .i64 k ∧ Up w wr ∧ Hid (SO 9 32 wr w.heap.size wr.heap.size o (x.take k))) (fun _ i _ => x.length - (intOf i).toNat)
  case atStart => exact ⟨0, Nat.zero_le _, rfl, Up.rf w, SO.nil_ _ _ _ _ _⟩
  case round =>
    obtain ⟨k, hk, rfl, hb, HSO⟩ := hrel
    by_cases hlt : k < x.length
    · obtain ⟨b, off, d, c, rfl, c0, c1, hA⟩ := SF.at (HV.out.up hb).1 hlt
      have HO : Hid (Ob AF wr lo hi (.agg #[.string x[k].rel, .slice d x[k].args.length c]) x[k]) := ⟨hA, Nat.le_trans HV.out.2 hb.size⟩
      clear hA
      have i1 : (0 : Int) ≤ (k : Int) := by omega
      have i2 : (k : Int) < (x.length : Int) := by omega
      have HF := Lib.hid (take_succ9 hlt)
      have hlen2 : (x.take k).length ≤ 1048576 := by simp; omega
      have HU := Lib.hid (Up.al1 wr (.cells #[.string x[k].rel, .slice d x[k].args.length c] 32))
      go_wp2_with fail
      generalize (wr.alloc (.cells #[.string x[k].rel, .slice d x[k].args.length c] 32)) = W1 at *
      clear c0 c1
      refine (cCopyF (HO.out.up HU.out) (HZ.out k hlt)).mono ?_
      rintro e w2 ⟨u, rfl, ho, b2⟩
      obtain ⟨av, rfl, hto⟩ := ho.1
      obtain ⟨a1, q1, rfl⟩ := hto.tx.form
      obtain ⟨vs, hr, hown⟩ := HSO.out.rows
      have hw1 := HU.out.tr b2
      have hown1 := Lib.hid (owns_below hown hw1)
      have HR1 := Lib.hid (hr.keep (Stays.of_below hw1 (Nat.le_refl _)))
      have hm1 := HU.out.size
      have hm2 := b2.size
      have hm3 := hb.size
      have HT := Lib.hid (hto.mono hm1 (Nat.le_refl _))
      have hbase : w.heap.size ≤ (w2.alloc (.cells #[.string x[k].rel, .slice a1 x[k].args.length q1] 32)).heap.size := by simp; omega
      have HB1 := Lib.hid (hb.tr hw1)
      have HN := Lib.hid (news2 (Blk.new w2 32 #[.string x[k].rel, .slice a1 x[k].args.length q1]))
      clear ho hto hown hr b2 hw1 hb
      go_wp2_with (at_builtin; refine wpList_append_own _ rfl _ _ 28 rfl w.heap.size 32 i0 _ 2 40 Tryd.underlying28 hi0 hz0 hz1 hz2 rfl (by decide) _ (x.take k).length (flatF (x.take k) vs) rfl (hown1.out.alloc _) ⟨w2.heap.size, 0, none⟩ 1 1 [.string x[k].rel, .slice a1 x[k].args.length q1] rfl rfl HN.out (one2 rfl rfl) (by unfold maxLen; omega) (by omega) hbase ?_; intro v' w3 hown' hgrow _)
      have hS2 : Hid (SO 9 32 w3 w.heap.size w3.heap.size v' (x.take (k + 1))) := by
        show SO _ _ _ _ _ _ _
        rw [HF.out]
        exact SO.app1 (by decide) HR1.out hown1.out HT.out (by omega) (by omega) (Nat.le_refl _) hown' hgrow
      have hb2 : Up w w3 := (HB1.out.al _).grown hgrow (fun g hg => (hown1.out.lt g hg).1)
      clear hown' hgrow hown1 HR1 HT HB1 HSO HN
      go_wp2
      exact ⟨⟨k+1, by omega, by go_num, hb2, hS2.out⟩, by simp [intOf]; omega⟩
    · go_wp2
      go_ret
      have e : x.take k = x := List.take_of_length_le (by omega)
      exact ⟨_, rfl, ⟨by have h := HSO.out; rw [e] at h; exact h, Nat.le_refl _⟩, hb⟩
set_option maxHeartbeats 2000000 in
set_option maxRecDepth 100000 in
theorem cCopyFsS {v : Value} {x : List FactV} {lo hi : Nat} {w : World} (h : Ob SF w lo hi v x) (hz : fssz x ≤ 1048576) :
    Calls Tryd.prog 54 #[v] w fun e w' => ∃ v', e = .returned v' ∧ Ob (SO 9 32) w' w.heap.size w'.heap.size v' x ∧ Up w w' := by
  have hlen : x.length ≤ 1048576 := by unfold fssz at hz; omega
  have HZ := Lib.hid (fssz_arg hz)
  clear hz
  obtain ⟨a, cap, rfl⟩ := h.1.form
  obtain ⟨i0, hi0, hz0, hz1, hz2⟩ := info_parts Tryd.infoFact
  have HV := Lib.hid h
  clear h
  go_enter Tryd.func54, Tryd.ntmps54
  go_wp2_with fail
  go_loopw [3, 4] (fun o i wr => ∃ (k : Nat), k ≤ x.length ∧ i = .int .i64 k ∧ Up w wr ∧ Hid (SO 9 32 wr w.heap.size wr.heap.size o (x.take k))) (fun _ i _ => x.length - (intOf i).toNat)
  case atStart => exact ⟨0, Nat.zero_le _, rfl, Up.al1 w _, SO.made_ _ _ _⟩
  case round =>
    obtain ⟨k, hk, rfl, hb, HSO⟩ := hrel
    by_cases hlt : k < x.length
    · obtain ⟨b, off, d, c, rfl, c0, c1, hA⟩ := SF.at (HV.out.up hb).1 hlt
      have HO : Hid (Ob AF wr lo hi (.agg #[.string x[k].rel, .slice d x[k].args.length c]) x[k]) := ⟨hA, Nat.le_trans HV.out.2 hb.size⟩
      clear hA
      have i1 : (0 : Int) ≤ (k : Int) := by omega
      have i2 : (k : Int) < (x.length : Int) := by omega
      have HF := Lib.hid (take_succ9 hlt)
      have hlen2 : (x.take k).length ≤ 1048576 := by simp; omega
      have HU := Lib.hid (Up.rf wr)
      go_wp2_with fail
      clear c0 c1
      refine (cCopyFS (HO.out.up HU.out) (HZ.out k hlt)).mono ?_
      rintro e w2 ⟨u, rfl, ho, b2⟩
      obtain ⟨av, rfl, hto⟩ := ho.1
      obtain ⟨a1, q1, rfl⟩ := hto.tx.form
      obtain ⟨vs, hr, hown⟩ := HSO.out.rows
      have hw1 := HU.out.tr b2
      have hown1 := Lib.hid (owns_below hown hw1)
      have HR1 := Lib.hid (hr.keep (Stays.of_below hw1 (Nat.le_refl _)))
      have hm1 := HU.out.size
      have hm2 := b2.size
      have hm3 := hb.size
      have HT := Lib.hid (hto.mono hm1 (Nat.le_refl _))
      have hbase : w.heap.size ≤ (w2.alloc (.cells #[.string x[k].rel, .slice a1 x[k].args.length q1] 32)).heap.size := by simp; omega
      have HB1 := Lib.hid (hb.tr hw1)
      have HN := Lib.hid (news2 (Blk.new w2 32 #[.string x[k].rel, .slice a1 x[k].args.length q1]))
      clear ho hto hown hr b2 hw1 hb
      go_wp2_with (at_builtin; refine wpList_append_own _ rfl _ _ 28 rfl w.heap.size 32 i0 _ 2 40 Tryd.underlying28 hi0 hz0 hz1 hz2 rfl (by decide) _ (x.take k).length (flatF (x.take k) vs) rfl (hown1.out.alloc _) ⟨w2.heap.size, 0, none⟩ 1 1 [.string x[k].rel, .slice a1 x[k].args.length q1] rfl rfl HN.out (one2 rfl rfl) (by unfold maxLen; omega) (by omega) hbase ?_; intro v' w3 hown' hgrow _)
      have hS2 : Hid (SO 9 32 w3 w.heap.size w3.heap.size v' (x.take (k + 1))) := by
        show SO _ _ _ _ _ _ _
        rw [HF.out]
        exact SO.app1 (by decide) HR1.out hown1.out HT.out (by omega) (by omega) (Nat.le_refl _) hown' hgrow
      have hb2 : Up w w3 := (HB1.out.al _).grown hgrow (fun g hg => (hown1.out.lt g hg).1)
      clear hown' hgrow hown1 HR1 HT HB1 HSO HN
      go_wp2
      exact ⟨⟨k+1, by omega, by go_num, hb2, hS2.out⟩, by simp [intOf]; omega⟩
    · go_wp2
      go_ret
      have e : x.take k = x := List.take_of_length_le (by omega)
      exact ⟨_, rfl, ⟨by have h := HSO.out; rw [e] at h; exact h, Nat.le_refl _⟩, hb⟩
set_option maxHeartbeats 2000000 in
set_option maxRecDepth 100000 in
theorem cWithout {v u : Value} {x : List FactV} {f : FactV} {lo hi lo' hi' : Nat} {w : World} (h : Ob SF w lo hi v x) (h' : Ob AF w lo' hi' u f) (hz : fssz x ≤ 1048576) :
    Calls Tryd.prog 102 #[v, u] w fun e w' => ∃ v', e = .returned v' ∧ Ob (SO 9 32) w' w.heap.size w'.heap.size v' (rmF x f) ∧ Up w w' := by
  have hlen : x.length ≤ 1048576 := by unfold fssz at hz; omega
  have HZ := Lib.hid (fssz_arg hz)
  clear hz
  obtain ⟨a, cap, rfl⟩ := h.1.form
  obtain ⟨i0, hi0, hz0, hz1, hz2⟩ := info_parts Tryd.infoFact
  obtain ⟨fa, fc, rfl⟩ := h'.1.form
  have hb0 : Up w (w.alloc (.cells #[.string f.rel, .slice fa f.args.length fc] 32)) := Up.al1 _ _
  have HV := Lib.hid (h.up hb0)
  have HP := Lib.hid (h'.up hb0)
  have KP := Lib.hid (Blk.new w 32 #[.string f.rel, .slice fa f.args.length fc])
  have HB := Lib.hid hb0
  clear h h' hb0
  go_enter Tryd.func102, Tryd.ntmps102
  go_wp2_with fail
  have hw0 : w.heap.size ≤ (w.alloc (.cells #[.string f.rel, .slice fa f.args.length fc] 32)).heap.size := HB.out.size
  have hws : (w.alloc (.cells #[.string f.rel, .slice fa f.args.length fc] 32)).heap.size = w.heap.size + 1 := by simp
  generalize (w.alloc (.cells #[.string f.rel, .slice fa f.args.length fc] 32)) = W at *
  have HWS := Lib.hid hws
  clear hws
  go_loopw [5, 6] (fun o i wr => ∃ (k : Nat), k ≤ x.length ∧ i = .int .i64 k ∧ Up W wr ∧ Hid (SO 9 32 wr W.heap.size wr.heap.size o ((x.take k).filter (neF f)))) (fun _ i _ => x.length - (intOf i).toNat)
  case atStart => exact ⟨0, Nat.zero_le _, rfl, Up.al1 _ _, SO.made9 _ _ _ HWS.out⟩
  case round =>
    obtain ⟨k, hk, rfl, hb, HSO⟩ := hrel
    by_cases hlt : k < x.length
    · obtain ⟨b, off, d, c, rfl, c0, c1, hA⟩ := SF.at (HV.out.up hb).1 hlt
      have HO : Hid (Ob AF wr lo hi (.agg #[.string x[k].rel, .slice d x[k].args.length c]) x[k]) := ⟨hA, Nat.le_trans HV.out.2 hb.size⟩
      clear hA
      have i1 : (0 : Int) ≤ (k : Int) := by omega
      have i2 : (k : Int) < (x.length : Int) := by omega
      have hbs := hb.size
      have k0 := (KP.out.up hb).cell0
      have k1 := (KP.out.up hb).cell1
      cases hq : sameFB x[k] f
      · have HF : Hid ((x.take (k + 1)).filter (neF f) = (x.take k).filter (neF f) ++ [x[k]]) := filter_take_t hlt (by unfold neF; rw [hq]; rfl)
        have HL := Lib.hid (filter_take_len x (neF f) k)
        have hlen2 : ((x.take k).filter (neF f)).length ≤ 1048576 := by have := HL.out; omega
        go_wp2_with fail
        go_region_held3 (fun w' => w'.cell? ⟨w.heap.size, 0, none⟩ = some (.string f.rel) ∧ w'.cell? ⟨w.heap.size, 1, none⟩ = some (.slice fa f.args.length fc) ∧ w'.cell? ⟨b, off + k * 2, none⟩ = some (.string x[k].rel) ∧ w'.cell? ⟨b, off + k * 2 + 1, none⟩ = some (.slice d x[k].args.length c) ∧ Up wr w')
          (first | exact ⟨k0, k1, c0, c1, (Up.rf _).dr⟩ | (have hh := ‹_ ∧ _ ∧ _ ∧ _ ∧ _›; have hb := ‹Up _ _›; exact ⟨keepCell hb hh.1, keepCell hb hh.2.1, keepCell hb hh.2.2.1, keepCell hb hh.2.2.2.1, hh.2.2.2.2.tr hb⟩))
          (first | (go_at_call 89; have hh := ‹_ ∧ _ ∧ _ ∧ _ ∧ _›; have b6 := hh.2.2.2.2; (with_reducible refine (cSameFactS (HO.out.up hh.2.2.2.2) (HP.out.up (hb.tr hh.2.2.2.2))).mono ?_); clear hh; rintro e w1 ⟨rfl, b1⟩; rw [hq]))
        have HBX := Lib.hid (Up.tr b6 b1)
        have HBW := Lib.hid (hb.tr HBX.out)
        have k0 := keepCell HBX.out c0
        have k1 := keepCell HBX.out c1
        clear b1 b6 c0 c1
        go_wp2_with fail
        clear k0 k1
        refine (cCopyFS (HO.out.up HBX.out) (HZ.out k hlt)).mono ?_
        rintro e w2 ⟨u, rfl, ho, b2⟩
        obtain ⟨av, rfl, hto⟩ := ho.1
        obtain ⟨a1, q1, rfl⟩ := hto.tx.form
        obtain ⟨vs, hr, hown⟩ := HSO.out.rows
        have hw1 := HBX.out.tr b2
        have hown1 := Lib.hid (owns_below hown hw1)
        have HR1 := Lib.hid (hr.keep (Stays.of_below hw1 (Nat.le_refl _)))
        have hm1 := HBX.out.size
        have hm2 := b2.size
        have hm3 := hb.size
        have HT := Lib.hid (hto.mono hm1 (Nat.le_refl _))
        have hbase : W.heap.size ≤ (w2.alloc (.cells #[.string x[k].rel, .slice a1 x[k].args.length q1] 32)).heap.size := by simp; omega
        have HB1 := Lib.hid (hb.tr hw1)
        have HN := Lib.hid (news2 (Blk.new w2 32 #[.string x[k].rel, .slice a1 x[k].args.length q1]))
        clear ho hto hown hr b2 hw1 hb
        go_wp2_with (at_builtin; refine wpList_append_own _ rfl _ _ 28 rfl W.heap.size 32 i0 _ 2 40 Tryd.underlying28 hi0 hz0 hz1 hz2 rfl (by decide) _ ((x.take k).filter (neF f)).length (flatF ((x.take k).filter (neF f)) vs) rfl (hown1.out.alloc _) ⟨w2.heap.size, 0, none⟩ 1 1 [.string x[k].rel, .slice a1 x[k].args.length q1] rfl rfl HN.out (one2 rfl rfl) (by unfold maxLen; omega) (by omega) hbase ?_; intro v' w3 hown' hgrow _)
        have hS2 : Hid (SO 9 32 w3 W.heap.size w3.heap.size v' ((x.take (k + 1)).filter (neF f))) := by
          show SO _ _ _ _ _ _ _
          rw [HF.out]
          exact SO.app1 (by decide) HR1.out hown1.out HT.out (by omega) (by omega) (Nat.le_refl _) hown' hgrow
        have hb2 : Up W w3 := (HB1.out.al _).grown hgrow (fun g hg => (hown1.out.lt g hg).1)
        clear hown' hgrow hown1 HR1 HT HB1 HSO HN
        go_wp2
        exact ⟨⟨k+1, by omega, by go_num, hb2, hS2.out⟩, by simp [intOf]; omega⟩
      · have HF : Hid ((x.take (k + 1)).filter (neF f) = (x.take k).filter (neF f)) := filter_take_f hlt (by unfold neF; rw [hq]; rfl)
        go_wp2_with fail
        go_region_held3 (fun w' => w'.cell? ⟨w.heap.size, 0, none⟩ = some (.string f.rel) ∧ w'.cell? ⟨w.heap.size, 1, none⟩ = some (.slice fa f.args.length fc) ∧ w'.cell? ⟨b, off + k * 2, none⟩ = some (.string x[k].rel) ∧ w'.cell? ⟨b, off + k * 2 + 1, none⟩ = some (.slice d x[k].args.length c) ∧ Up wr w')
          (first | exact ⟨k0, k1, c0, c1, (Up.rf _).dr⟩ | (have hh := ‹_ ∧ _ ∧ _ ∧ _ ∧ _›; have hb := ‹Up _ _›; exact ⟨keepCell hb hh.1, keepCell hb hh.2.1, keepCell hb hh.2.2.1, keepCell hb hh.2.2.2.1, hh.2.2.2.2.tr hb⟩))
          (first | (go_at_call 89; have hh := ‹_ ∧ _ ∧ _ ∧ _ ∧ _›; have b6 := hh.2.2.2.2; (with_reducible refine (cSameFactS (HO.out.up hh.2.2.2.2) (HP.out.up (hb.tr hh.2.2.2.2))).mono ?_); clear hh; rintro e w1 ⟨rfl, b1⟩; rw [hq]))
        have HBX := Lib.hid (Up.tr b6 b1)
        have HBW := Lib.hid (hb.tr HBX.out)
        have k0 := keepCell HBX.out c0
        have k1 := keepCell HBX.out c1
        clear b1 b6 c0 c1
        have hS2 := Lib.hid (HSO.out.up9 HBX.out)
        clear k0 k1
        go_wp2
        exact ⟨⟨k+1, by omega, by go_num, HBW.out, by have h := hS2.out; rw [← HF.out] at h; exact h⟩, by simp [intOf]; omega⟩
    · go_wp2
      go_ret
      have e : (x.take k).filter (neF f) = rmF x f := by rw [List.take_of_length_le (by omega)]; rfl
      exact ⟨_, rfl, ⟨by rw [← e]; exact HSO.out.mono9 hw0 (Nat.le_refl _), Nat.le_refl _⟩, HB.out.tr hb⟩
end Go.Proofs.YtpjklnngigkkiaaDoor
