/- FactsWith, the program's and the reference's: the facts of a relation; wherever the lengths can be counted. -/
import Derived.Test.YtpbnglpiadfjpaaCopy
import Derived.Test.YtpbnglpiadfjpaaPl4
namespace Go.Proofs.Ytpbnglpiadfjpaa
open Go.RowKit
attribute [local go_sem ↓] Go.wp_at_zero Go.wp_at_succ
set_option linter.unusedVariables false
def relB (r : ByteArray) (f : FactV) : Bool := f.rel.toList == r.toList
def withF (L : List FactV) (r : ByteArray) : List FactV := L.filter (relB r)
theorem fssz_filter (p : FactV → Bool) (L : List FactV) : fssz (L.filter p) ≤ fssz L := by
  have h : fsum (L.filter p) ≤ fsum L := by
    induction L with
    | nil => simp [fsum]
    | cons f r ih => rw [List.filter_cons]; split <;> simp only [fsum] <;> omega
  have := List.length_filter_le p L
  unfold fssz; omega
theorem fssz_arg {L : List FactV} (h : fssz L ≤ 1048576) (k : Nat) (hk : k < L.length) : L[k].args.length ≤ 4194304 := by
  have h1 := fsum_mem (List.getElem_mem hk)
  unfold fssz at h; unfold fsz tsz at h1; omega
set_option maxHeartbeats 1000000 in
theorem cFactsWith {v : Value} {x : List FactV} {r : ByteArray} {lo hi : Nat} {w : World} (h : Ob SF w lo hi v x) (hz : fssz x ≤ 1048576) :
    Calls Try.prog 40 #[v, .string r] w fun e w' => ∃ v', e = .returned v' ∧ Ob (SO 9 41) w' w.heap.size w'.heap.size v' (withF x r) ∧ Up w w' := by
  have hlen : x.length ≤ 1048576 := by unfold fssz at hz; omega
  have HZ := Lib.hid (fssz_arg hz)
  clear hz
  obtain ⟨a, cap, rfl⟩ := h.1.form
  obtain ⟨i0, hi0, hz0, hz1, hz2⟩ := info_parts Try.infoFact
  have HV := Lib.hid h
  clear h
  go_enter Try.func40, Try.ntmps40
  go_wp2_with fail
  go_loopw [5, 10] (fun o i wr => ∃ (k : Nat), k ≤ x.length ∧ i = .int .i64 k ∧ Up w wr ∧ Hid (SO 9 41 wr w.heap.size wr.heap.size o ((x.take k).filter (relB r)))) (fun _ i _ => x.length - (intOf i).toNat)
  case atStart => exact ⟨0, Nat.zero_le _, rfl, Up.rf w, SO.nil_ _ _ _ _ _⟩
  case round =>
    obtain ⟨k, hk, rfl, hb, HSO⟩ := hrel
    by_cases hlt : k < x.length
    · obtain ⟨b, off, d, c, rfl, c0, c1, hA⟩ := SF.at (HV.out.up hb).1 hlt
      have HO : Hid (Ob AF wr lo hi (.agg #[.string x[k].rel, .slice d x[k].args.length c]) x[k]) := ⟨hA, Nat.le_trans HV.out.2 hb.size⟩
      clear hA
      have i1 : (0 : Int) ≤ (k : Int) := by omega
      have i2 : (k : Int) < (x.length : Int) := by omega
      have hU : Up wr (wr.alloc (.cells #[.string x[k].rel, .slice d x[k].args.length c] 41)) := Up.al1 _ _
      have HU := Lib.hid hU
      clear hU
      cases hq : (x[k].rel.toList == r.toList)
      · have HF : Hid ((x.take (k + 1)).filter (relB r) = (x.take k).filter (relB r)) := filter_take_f hlt hq
        go_wp2_with fail
        have hs := HU.out.size
        refine ⟨⟨k+1, by omega, by go_num, hb.tr HU.out, ?_⟩, by simp [intOf]; omega⟩
        show SO _ _ _ _ _ _ _
        rw [HF.out]
        obtain ⟨vs, hr, ho⟩ := HSO.out.rows
        have hk := Stays.of_below (lo := w.heap.size) HU.out (Nat.le_refl _)
        exact SO.mk_ (ho.alloc _) (fun g hg => by have := (ho.lt g hg).2; omega) ((hr.keep hk).mono (Nat.le_refl _) hs)
      · have HF : Hid ((x.take (k + 1)).filter (relB r) = (x.take k).filter (relB r) ++ [x[k]]) := filter_take_t hlt hq
        have HL := Lib.hid (filter_take_len x (relB r) k)
        go_wp2_with fail
        generalize (wr.alloc (.cells #[.string x[k].rel, .slice d x[k].args.length c] 41)) = W1 at *
        refine (cCopyF (HO.out.up HU.out) (HZ.out k hlt)).mono ?_
        rintro e w1 ⟨u, rfl, ho, b1⟩
        obtain ⟨av, rfl, hto⟩ := ho.1
        obtain ⟨a1, q1, rfl⟩ := hto.tx.form
        obtain ⟨vs, hr, hown⟩ := HSO.out.rows
        have hw1 := HU.out.tr b1
        have hown1 := Lib.hid (owns_below hown hw1)
        have HR1 := Lib.hid (hr.keep (Stays.of_below hw1 (Nat.le_refl _)))
        have HT := Lib.hid hto
        have hbase : w.heap.size ≤ (w1.alloc (.cells #[.string x[k].rel, .slice a1 x[k].args.length q1] 41)).heap.size := by have := hb.size; have := hw1.size; simp; omega
        have HB1 := Lib.hid (hb.tr hw1)
        have hm1 := HU.out.size
        have hm2 := b1.size
        have hm3 := hb.size
        have hlen2 : ((x.take k).filter (relB r)).length ≤ 1048576 := by have := HL.out; omega
        have HN := Lib.hid (news2 (Blk.new w1 41 #[.string x[k].rel, .slice a1 x[k].args.length q1]))
        clear ho hto hown hr b1 hw1 hb c0 c1
        go_wp2_with (at_builtin; refine wpList_append_own _ rfl _ _ 39 rfl w.heap.size 41 i0 _ 2 40 Try.underlying39 hi0 hz0 hz1 hz2 rfl (by decide) _ ((x.take k).filter (relB r)).length (flatF ((x.take k).filter (relB r)) vs) rfl (hown1.out.alloc _) ⟨w1.heap.size, 0, none⟩ 1 1 [.string x[k].rel, .slice a1 x[k].args.length q1] rfl rfl HN.out (one2 rfl rfl) (by unfold maxLen; omega) (by omega) hbase ?_; intro v' w2 hown' hgrow _)
        have hS2 : Hid (SO 9 41 w2 w.heap.size w2.heap.size v' ((x.take (k + 1)).filter (relB r))) := by
          show SO _ _ _ _ _ _ _
          rw [HF.out]
          exact SO.app1 (by decide) HR1.out hown1.out (HT.out.mono hm1 (Nat.le_refl _)) (by omega) (by omega) (Nat.le_refl _) hown' hgrow
        have hb2 : Up w w2 := (HB1.out.al _).grown hgrow (fun g hg => (hown1.out.lt g hg).1)
        clear hown' hgrow hown1 HR1 HT HB1 HSO HN
        go_wp2
        exact ⟨⟨k+1, by omega, by go_num, hb2, hS2.out⟩, by simp [intOf]; omega⟩
    · go_wp2
      go_ret
      have e : (x.take k).filter (relB r) = withF x r := by rw [List.take_of_length_le (by omega)]; rfl
      exact ⟨_, rfl, ⟨by rw [← e]; exact HSO.out, Nat.le_refl _⟩, hb⟩
set_option maxHeartbeats 1000000 in
theorem cFactsWithS {v : Value} {x : List FactV} {r : ByteArray} {lo hi : Nat} {w : World} (h : Ob SF w lo hi v x) (hz : fssz x ≤ 1048576) :
    Calls Try.prog 39 #[v, .string r] w fun e w' => ∃ v', e = .returned v' ∧ Ob (SO 9 41) w' w.heap.size w'.heap.size v' (withF x r) ∧ Up w w' := by
  have hlen : x.length ≤ 1048576 := by unfold fssz at hz; omega
  have HZ := Lib.hid (fssz_arg hz)
  clear hz
  obtain ⟨a, cap, rfl⟩ := h.1.form
  obtain ⟨i0, hi0, hz0, hz1, hz2⟩ := info_parts Try.infoFact
  have HV := Lib.hid h
  clear h
  go_enter Try.func39, Try.ntmps39
  go_wp2_with fail
  go_loopw [5, 6] (fun o i wr => ∃ (k : Nat), k ≤ x.length ∧ i = .int .i64 k ∧ Up w wr ∧ Hid (SO 9 41 wr w.heap.size wr.heap.size o ((x.take k).filter (relB r)))) (fun _ i _ => x.length - (intOf i).toNat)
  case atStart => exact ⟨0, Nat.zero_le _, rfl, Up.al1 w _, SO.made_ _ _ _⟩
  case round =>
    obtain ⟨k, hk, rfl, hb, HSO⟩ := hrel
    by_cases hlt : k < x.length
    · obtain ⟨b, off, d, c, rfl, c0, c1, hA⟩ := SF.at (HV.out.up hb).1 hlt
      have HO : Hid (Ob AF wr lo hi (.agg #[.string x[k].rel, .slice d x[k].args.length c]) x[k]) := ⟨hA, Nat.le_trans HV.out.2 hb.size⟩
      clear hA
      have i1 : (0 : Int) ≤ (k : Int) := by omega
      have i2 : (k : Int) < (x.length : Int) := by omega
      have HU := Lib.hid (Up.rf wr)
      cases hq : (x[k].rel.toList == r.toList)
      · have HF : Hid ((x.take (k + 1)).filter (relB r) = (x.take k).filter (relB r)) := filter_take_f hlt hq
        go_wp2_with fail
        have hs := HU.out.size
        refine ⟨⟨k+1, by omega, by go_num, hb.tr HU.out, ?_⟩, by simp [intOf]; omega⟩
        show SO _ _ _ _ _ _ _
        rw [HF.out]
        obtain ⟨vs, hr, ho⟩ := HSO.out.rows
        have hk := Stays.of_below (lo := w.heap.size) HU.out (Nat.le_refl _)
        exact SO.mk_ ho (fun g hg => by have := (ho.lt g hg).2; omega) ((hr.keep hk).mono (Nat.le_refl _) hs)
      · have HF : Hid ((x.take (k + 1)).filter (relB r) = (x.take k).filter (relB r) ++ [x[k]]) := filter_take_t hlt hq
        have HL := Lib.hid (filter_take_len x (relB r) k)
        go_wp2_with fail
        refine (cCopyFS (HO.out.up HU.out) (HZ.out k hlt)).mono ?_
        rintro e w1 ⟨u, rfl, ho, b1⟩
        obtain ⟨av, rfl, hto⟩ := ho.1
        obtain ⟨a1, q1, rfl⟩ := hto.tx.form
        obtain ⟨vs, hr, hown⟩ := HSO.out.rows
        have hw1 := HU.out.tr b1
        have hown1 := Lib.hid (owns_below hown hw1)
        have HR1 := Lib.hid (hr.keep (Stays.of_below hw1 (Nat.le_refl _)))
        have HT := Lib.hid hto
        have hbase : w.heap.size ≤ (w1.alloc (.cells #[.string x[k].rel, .slice a1 x[k].args.length q1] 41)).heap.size := by have := hb.size; have := hw1.size; simp; omega
        have HB1 := Lib.hid (hb.tr hw1)
        have hm1 := HU.out.size
        have hm2 := b1.size
        have hm3 := hb.size
        have hlen2 : ((x.take k).filter (relB r)).length ≤ 1048576 := by have := HL.out; omega
        have HN := Lib.hid (news2 (Blk.new w1 41 #[.string x[k].rel, .slice a1 x[k].args.length q1]))
        clear ho hto hown hr b1 hw1 hb c0 c1
        go_wp2_with (at_builtin; refine wpList_append_own _ rfl _ _ 39 rfl w.heap.size 41 i0 _ 2 40 Try.underlying39 hi0 hz0 hz1 hz2 rfl (by decide) _ ((x.take k).filter (relB r)).length (flatF ((x.take k).filter (relB r)) vs) rfl (hown1.out.alloc _) ⟨w1.heap.size, 0, none⟩ 1 1 [.string x[k].rel, .slice a1 x[k].args.length q1] rfl rfl HN.out (one2 rfl rfl) (by unfold maxLen; omega) (by omega) hbase ?_; intro v' w2 hown' hgrow _)
        have hS2 : Hid (SO 9 41 w2 w.heap.size w2.heap.size v' ((x.take (k + 1)).filter (relB r))) := by
          show SO _ _ _ _ _ _ _
          rw [HF.out]
          exact SO.app1 (by decide) HR1.out hown1.out (HT.out.mono hm1 (Nat.le_refl _)) (by omega) (by omega) (Nat.le_refl _) hown' hgrow
        have hb2 : Up w w2 := (HB1.out.al _).grown hgrow (fun g hg => (hown1.out.lt g hg).1)
        clear hown' hgrow hown1 HR1 HT HB1 HSO HN
        go_wp2
        exact ⟨⟨k+1, by omega, by go_num, hb2, hS2.out⟩, by simp [intOf]; omega⟩
    · go_wp2
      go_ret
      have e : (x.take k).filter (relB r) = withF x r := by rw [List.take_of_length_le (by omega)]; rfl
      exact ⟨_, rfl, ⟨by rw [← e]; exact HSO.out, Nat.le_refl _⟩, hb⟩
end Go.Proofs.Ytpbnglpiadfjpaa
