/- FormatFacts, the program's and the reference's: the facts' texts with blanks between them; wherever the lengths can be counted. -/
import Derived.Test.YtojgkodffmdnpaaForm
import Derived.Test.YtojgkodffmdnpaaFw
namespace Go.Proofs.Ytojgkodffmdnpaa
open Go.RowKit
attribute [local go_sem ↓] Go.wp_at_zero Go.wp_at_succ
set_option linter.unusedVariables false
theorem formFs_0 {x : List FactV} (h : x.length = 0) : formFs x = ⟨#[45]⟩ := by unfold formFs; rw [if_pos h]; rfl
theorem formFs_bad {x : List FactV} {k : Nat} (hk : k < x.length) (h : isFactB x[k] = false) : formFs x = ⟨#[]⟩ := by
  unfold formFs
  have : x.all isFactB = false := all_at_f hk h
  rw [if_neg (by omega), this]; rfl
theorem formFs_ok {x : List FactV} (h0 : x.length ≠ 0) (h : x.all isFactB = true) : formFs x = joinB (x.map formF) ⟨#[32]⟩ := by
  unfold formFs; rw [if_neg h0, if_pos h]; rfl
theorem formF_size (f : FactV) : (formF f).size ≤ 40 := by
  unfold formF; split
  · exact fmtF_fact ‹_›
  · simp [ByteArray.size]
theorem formFs_join {x : List FactV} (h : x.length ≤ 1048576) : (joinB (x.map formF) ⟨#[32]⟩).size ≤ 140737488355328 := by
  have := join_small (L := x.map formF) (sep := ⟨#[32]⟩) (n := 40) (m := 1048576) (by intro s hs; obtain ⟨f, -, rfl⟩ := List.mem_map.1 hs; exact formF_size f) (by simpa using h)
  have h2 : (⟨#[32]⟩ : ByteArray).size = 1 := rfl
  omega
theorem fssz_at'' {L : List FactV} (h : fssz L ≤ 1048576) (k : Nat) (hk : k < L.length) : fsz L[k] ≤ 1048576 := by
  have := fsum_mem (List.getElem_mem hk); unfold fssz at h; omega
set_option maxHeartbeats 2000000 in
theorem cFormFs {v : Value} {x : List FactV} {lo hi : Nat} {w : World} (h : Ob SF w lo hi v x) (hz : fssz x ≤ 1048576) :
    Calls Try.prog 29 #[v] w fun e w' => e = .returned (.string (formFs x)) ∧ Up w w' := by
  have hlen : x.length ≤ 1048576 := by unfold fssz at hz; omega
  have HZ2 := Lib.hid (fssz_at'' hz)
  clear hz
  obtain ⟨a, cap, rfl⟩ := h.1.form
  obtain ⟨i0, hi0, hz0, hz1, hz2⟩ := info_parts Try.infoStr
  have HV := Lib.hid h
  have HJ := Lib.hid (formFs_join hlen)
  clear h
  by_cases h0 : x.length = 0
  · have HE := Lib.hid (formFs_0 h0)
    have hd : ((x.length : Int) == 0) = true := by simp [h0]
    clear h0
    go_enter Try.func29, Try.ntmps29
    go_wp2
    go_ret
    exact ⟨ret_str HE.out.symm, Up.rf w⟩
  · have hd : ((x.length : Int) == 0) = false := by simp; intro e; subst e; simp at h0
    have H0 := Lib.hid h0
    clear h0
    go_enter Try.func29, Try.ntmps29
    go_wp2_with fail
    go_loopw [3, 11] (fun o i wr => ∃ (k : Nat), k ≤ x.length ∧ i = .int .i64 k ∧ Up w wr ∧ Hid (TO 9 wr w.heap.size wr.heap.size o ((x.take k).map formF)) ∧ Hid ((x.take k).all isFactB = true)) (fun _ i _ => x.length - (intOf i).toNat)
    case atStart => exact ⟨0, Nat.zero_le _, rfl, Up.rf w, TO.nil_ _ _ _ _, rfl⟩
    case round =>
      obtain ⟨k, hk, rfl, hb, HP, HA⟩ := hrel
      by_cases hlt : k < x.length
      · obtain ⟨b, off, d, c, rfl, c0, c1, hA⟩ := SF.at (HV.out.up hb).1 hlt
        have HO : Hid (Ob AF wr lo hi (.agg #[.string x[k].rel, .slice d x[k].args.length c]) x[k]) := ⟨hA, Nat.le_trans HV.out.2 hb.size⟩
        clear hA
        have i1 : (0 : Int) ≤ (k : Int) := by omega
        have i2 : (k : Int) < (x.length : Int) := by omega
        have hzk := HZ2.out k hlt
        have HU := Lib.hid (Up.al1 wr (.cells #[.string x[k].rel, .slice d x[k].args.length c] 79))
        have KX := Lib.hid (Blk.new wr 79 #[.string x[k].rel, .slice d x[k].args.length c])
        cases hq : isFactB x[k]
        · have HE := Lib.hid (formFs_bad hlt hq)
          go_wp2_with fail
          generalize (wr.alloc (.cells #[.string x[k].rel, .slice d x[k].args.length c] 79)) = W1 at *
          clear c0 c1
          refine (cIsFact (HO.out.up HU.out) hzk).mono ?_
          rintro e w1 ⟨rfl, b1⟩
          rw [hq]
          have HB := Lib.hid ((hb.tr HU.out).tr b1)
          clear b1
          go_wp2
          go_ret
          exact ⟨ret_str HE.out.symm, HB.out⟩
        · have HA2 := Lib.hid (all_take_t hlt HA.out hq)
          have HM : Hid ((x.take (k + 1)).map formF = (x.take k).map formF ++ [formF x[k]]) := map_take_succ hlt
          go_wp2_with fail
          generalize (wr.alloc (.cells #[.string x[k].rel, .slice d x[k].args.length c] 79)) = W1 at *
          clear c0 c1
          refine (cIsFact (HO.out.up HU.out) hzk).mono ?_
          rintro e w1 ⟨rfl, b1⟩
          rw [hq]
          have k0 := (KX.out.up b1).cell0; have k1 := (KX.out.up b1).cell1
          go_wp2_with fail
          clear k0 k1
          refine (cFormF (HO.out.up (HU.out.tr b1)) hzk).mono ?_
          rintro e w2 ⟨rfl, b2⟩
          have HW := Lib.hid ((HU.out.tr b1).tr b2)
          have HT := Lib.hid (((show Ob (TO 9) wr w.heap.size wr.heap.size _ _ from ⟨HP.out, Nat.le_refl _⟩).up HW.out).1)
          have HB2 := Lib.hid (hb.tr HW.out)
          have hl : ((x.take k).map formF).length ≤ 1048576 := by simp; omega
          have HN := Lib.hid (news1 (Blk.new w2 9 #[.string (formF x[k])]))
          have hba : w.heap.size ≤ (w2.alloc (.cells #[.string (formF x[k])] 9)).heap.size := by have := HB2.out.size; simp; omega
          clear b1 b2 hb HP
          go_wp2_with (at_builtin; refine wpList_append_own _ rfl _ _ 22 rfl w.heap.size 9 i0 _ 1 16 Try.underlying22 hi0 hz0 hz1 hz2 rfl (by decide) _ ((x.take k).map formF).length (((x.take k).map formF).map Value.string) rfl (HT.out.1.alloc _) ⟨w2.heap.size, 0, none⟩ 1 1 [.string (formF x[k])] rfl rfl HN.out (one1 rfl) (by unfold maxLen; omega) (by omega) hba ?_; intro v3 w3 hown' hgrow _)
          have hP3 : Hid (TO 9 w3 w.heap.size w3.heap.size v3 ((x.take (k + 1)).map formF)) := by show TO _ _ _ _ _ _; rw [HM.out]; exact TO.snoc hown'
          have hb3 : Up w w3 := (HB2.out.al _).grown hgrow (fun g hg => (HT.out.1.lt g hg).1)
          clear hown' hgrow HT HB2 HN
          go_wp2
          exact ⟨⟨k+1, by omega, by go_num, hb3, hP3.out, HA2.out⟩, by simp [intOf]; omega⟩
      · have HE : Hid (formFs x = joinB (x.map formF) ⟨#[32]⟩) := formFs_ok H0.out (by have h := HA.out; rwa [List.take_of_length_le (by omega)] at h)
        have HT := Lib.hid (show Ob TX wr w.heap.size wr.heap.size _ (x.map formF) from ⟨by have h := HP.out; rw [List.take_of_length_le (by omega)] at h; exact h.tx, Nat.le_refl _⟩)
        clear HP HA
        go_wp2_with fail
        refine (cJoin HT.out (by simp; omega) HJ.out).mono ?_
        rintro e w1 ⟨rfl, b1⟩
        have HB := Lib.hid (hb.tr b1)
        clear b1
        go_wp2
        go_ret
        exact ⟨ret_str HE.out.symm, HB.out⟩
set_option maxHeartbeats 2000000 in
theorem cFormFsS {v : Value} {x : List FactV} {lo hi : Nat} {w : World} (h : Ob SF w lo hi v x) (hz : fssz x ≤ 1048576) :
    Calls Try.prog 27 #[v] w fun e w' => e = .returned (.string (formFs x)) ∧ Up w w' := by
  have hlen : x.length ≤ 1048576 := by unfold fssz at hz; omega
  have HZ2 := Lib.hid (fssz_at'' hz)
  clear hz
  obtain ⟨a, cap, rfl⟩ := h.1.form
  obtain ⟨i0, hi0, hz0, hz1, hz2⟩ := info_parts Try.infoStr
  have HV := Lib.hid h
  have HJ := Lib.hid (formFs_join hlen)
  clear h
  go_enter Try.func27, Try.ntmps27
  go_wp2_with fail
  go_loopw [3, 4] (fun o i wr => ∃ (k : Nat), k ≤ x.length ∧ i = .int .i64 k ∧ Up w wr ∧ Hid (TO 9 wr w.heap.size wr.heap.size o ((x.take k).map formF)) ∧ Hid ((x.take k).all isFactB = true)) (fun _ i _ => x.length - (intOf i).toNat)
  case atStart => exact ⟨0, Nat.zero_le _, rfl, Up.al1 _ _, TO.made_ _ _, rfl⟩
  case round =>
    obtain ⟨k, hk, rfl, hb, HP, HA⟩ := hrel
    by_cases hlt : k < x.length
    · obtain ⟨b, off, d, c, rfl, c0, c1, hA⟩ := SF.at (HV.out.up hb).1 hlt
      have HO : Hid (Ob AF wr lo hi (.agg #[.string x[k].rel, .slice d x[k].args.length c]) x[k]) := ⟨hA, Nat.le_trans HV.out.2 hb.size⟩
      clear hA
      have i1 : (0 : Int) ≤ (k : Int) := by omega
      have i2 : (k : Int) < (x.length : Int) := by omega
      have hzk := HZ2.out k hlt
      have HU := Lib.hid (Up.rf wr)
      cases hq : isFactB x[k]
      · have HE := Lib.hid (formFs_bad hlt hq)
        go_wp2_with fail
        have C0 := Lib.hid c0; have C1 := Lib.hid c1
        clear c0 c1
        refine (cIsFactS (HO.out.up HU.out) hzk).mono ?_
        rintro e w1 ⟨rfl, b1⟩
        rw [hq]
        have HB := Lib.hid ((hb.tr HU.out).tr b1)
        clear b1
        go_wp2
        go_ret
        exact ⟨ret_str HE.out.symm, HB.out⟩
      · have HA2 := Lib.hid (all_take_t hlt HA.out hq)
        have HM : Hid ((x.take (k + 1)).map formF = (x.take k).map formF ++ [formF x[k]]) := map_take_succ hlt
        go_wp2_with fail
        have C0 := Lib.hid c0; have C1 := Lib.hid c1
        clear c0 c1
        refine (cIsFactS (HO.out.up HU.out) hzk).mono ?_
        rintro e w1 ⟨rfl, b1⟩
        rw [hq]
        have hb9 := hb.tr b1
        have k0 := keepCell b1 C0.out; have k1 := keepCell b1 C1.out
        go_wp2_with fail
        clear k0 k1
        refine (cFormFS (HO.out.up (HU.out.tr b1)) hzk).mono ?_
        rintro e w2 ⟨rfl, b2⟩
        have HW := Lib.hid ((HU.out.tr b1).tr b2)
        have HT := Lib.hid (((show Ob (TO 9) wr w.heap.size wr.heap.size _ _ from ⟨HP.out, Nat.le_refl _⟩).up HW.out).1)
        have HB2 := Lib.hid (hb.tr HW.out)
        have hl : ((x.take k).map formF).length ≤ 1048576 := by simp; omega
        have HN := Lib.hid (news1 (Blk.new w2 9 #[.string (formF x[k])]))
        have hba : w.heap.size ≤ (w2.alloc (.cells #[.string (formF x[k])] 9)).heap.size := by have := HB2.out.size; simp; omega
        clear b1 b2 hb HP
        go_wp2_with (at_builtin; refine wpList_append_own _ rfl _ _ 22 rfl w.heap.size 9 i0 _ 1 16 Try.underlying22 hi0 hz0 hz1 hz2 rfl (by decide) _ ((x.take k).map formF).length (((x.take k).map formF).map Value.string) rfl (HT.out.1.alloc _) ⟨w2.heap.size, 0, none⟩ 1 1 [.string (formF x[k])] rfl rfl HN.out (one1 rfl) (by unfold maxLen; omega) (by omega) hba ?_; intro v3 w3 hown' hgrow _)
        have hP3 : Hid (TO 9 w3 w.heap.size w3.heap.size v3 ((x.take (k + 1)).map formF)) := by show TO _ _ _ _ _ _; rw [HM.out]; exact TO.snoc hown'
        have hb3 : Up w w3 := (HB2.out.al _).grown hgrow (fun g hg => (HT.out.1.lt g hg).1)
        clear hown' hgrow HT HB2 HN
        go_wp2
        exact ⟨⟨k+1, by omega, by go_num, hb3, hP3.out, HA2.out⟩, by simp [intOf]; omega⟩
    · have hP := HP.out
      rw [List.take_of_length_le (by omega)] at hP
      have HA1 : Hid (x.all isFactB = true) := by have h := HA.out; rwa [List.take_of_length_le (by omega)] at h
      obtain ⟨ta, tc, e9⟩ := hP.tx.form
      rw [List.length_map] at e9
      subst e9
      have HT := Lib.hid (show Ob TX wr w.heap.size wr.heap.size _ (x.map formF) from ⟨hP.tx, Nat.le_refl _⟩)
      clear HP HA hP
      by_cases h0 : x.length = 0
      · have HE := Lib.hid (formFs_0 h0)
        have hd : ((x.length : Int) == 0) = true := by simp [h0]
        clear h0
        go_wp2
        go_ret
        exact ⟨ret_str HE.out.symm, hb⟩
      · have HE := Lib.hid (formFs_ok h0 HA1.out)
        have hd : ((x.length : Int) == 0) = false := by simp; intro e; subst e; simp at h0
        clear h0
        go_wp2_with fail
        refine (cJoinS HT.out (by simp; omega) HJ.out).mono ?_
        rintro e w1 ⟨rfl, b1⟩
        have HB := Lib.hid (hb.tr b1)
        clear b1
        go_wp2
        go_ret
        exact ⟨ret_str HE.out.symm, HB.out⟩
end Go.Proofs.Ytojgkodffmdnpaa
