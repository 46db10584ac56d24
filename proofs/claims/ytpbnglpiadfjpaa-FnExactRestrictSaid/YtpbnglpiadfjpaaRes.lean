/- Restrict, the program's and the reference's: the pairs whose variables are in a list; wherever the lengths can be counted. -/
import Derived.Test.YtpbnglpiadfjpaaCopy
import Derived.Test.YtpbnglpiadfjpaaPl4
namespace Go.Proofs.Ytpbnglpiadfjpaa
open Go.RowKit
attribute [local go_sem ↓] Go.wp_at_zero Go.wp_at_succ
set_option linter.unusedVariables false
theorem resP_psz (b : Prs) (l : List ByteArray) : psz (resP b l) ≤ psz b := by
  have h : psum (resP b l) ≤ psum b := by
    unfold resP
    induction b with
    | nil => simp [psum]
    | cons p r ih => rw [List.filter_cons]; split <;> simp only [psum] <;> omega
  have := resP_len b l
  unfold psz; omega
set_option maxHeartbeats 400000 in
theorem chasT {v : Value} {x : List ByteArray} {s : ByteArray} {lo hi : Nat} {w : World} (h : Ob TX w lo hi v x) :
    Calls Try.prog 81 #[v, .string s] w fun e w' => e = .returned (.bool (hasB x s)) ∧ w = w' := by
  have hlen := h.1.len
  obtain ⟨a, cap, rfl⟩ := h.1.form
  have HV := Lib.hid h
  clear h
  go_enter Try.func81, Try.ntmps81
  go_wp2
  go_loop [9] (fun i => ∃ (k : Nat), k ≤ x.length ∧ i = .int .i64 k ∧ Hid ((x.take k).any (fun y => y.toList == s.toList) = false)) (fun i => x.length - (intOf i).toNat)
  case atStart => exact ⟨0, Nat.zero_le _, rfl, by simp [Hid]⟩
  case round =>
    obtain ⟨k, hk, rfl, H⟩ := hrel
    by_cases hlt : k < x.length
    · obtain ⟨b, off, rfl, -, -, c0⟩ := HV.out.1.at hlt
      have i1 : (0 : Int) ≤ (k : Int) := by omega
      have i2 : (k : Int) < (x.length : Int) := by omega
      cases hq : (x[k].toList == s.toList)
      · have HF := Lib.hid (any_take_f hlt H.out hq)
        go_wp2
        exact ⟨⟨k+1, by omega, by go_num, HF.out⟩, by simp [intOf]; omega⟩
      · have HF : Hid (hasB x s = true) := any_at_t hlt hq
        go_wp2
        go_ret
        exact ⟨ret_bool HF.out.symm, rfl⟩
    · have HF : Hid (hasB x s = false) := by have := H.out; rwa [List.take_of_length_le (by omega)] at this
      go_wp2
      go_ret
      exact ⟨ret_bool HF.out.symm, rfl⟩
set_option maxHeartbeats 400000 in
theorem chasTS {v : Value} {x : List ByteArray} {s : ByteArray} {lo hi : Nat} {w : World} (h : Ob TX w lo hi v x) :
    Calls Try.prog 79 #[v, .string s] w fun e w' => e = .returned (.bool (hasB x s)) ∧ w = w' := by
  have hlen := h.1.len
  obtain ⟨a, cap, rfl⟩ := h.1.form
  have HV := Lib.hid h
  clear h
  go_enter Try.func79, Try.ntmps79
  go_wp2
  go_loop [5] (fun i => ∃ (k : Nat), k ≤ x.length ∧ i = .int .i64 k ∧ Hid ((x.take k).any (fun y => y.toList == s.toList) = false)) (fun i => x.length - (intOf i).toNat)
  case atStart => exact ⟨0, Nat.zero_le _, rfl, by simp [Hid]⟩
  case round =>
    obtain ⟨k, hk, rfl, H⟩ := hrel
    by_cases hlt : k < x.length
    · obtain ⟨b, off, rfl, -, -, c0⟩ := HV.out.1.at hlt
      have i1 : (0 : Int) ≤ (k : Int) := by omega
      have i2 : (k : Int) < (x.length : Int) := by omega
      cases hq : (x[k].toList == s.toList)
      · have HF := Lib.hid (any_take_f hlt H.out hq)
        go_wp2
        exact ⟨⟨k+1, by omega, by go_num, HF.out⟩, by simp [intOf]; omega⟩
      · have HF : Hid (hasB x s = true) := any_at_t hlt hq
        go_wp2
        go_ret
        exact ⟨ret_bool HF.out.symm, rfl⟩
    · have HF : Hid (hasB x s = false) := by have := H.out; rwa [List.take_of_length_le (by omega)] at this
      go_wp2
      go_ret
      exact ⟨ret_bool HF.out.symm, rfl⟩
set_option maxHeartbeats 1000000 in
theorem cRestrict {v u : Value} {x : Prs} {l : List ByteArray} {lo hi lo' hi' : Nat} {w : World} (h : Ob SP w lo hi v x) (h' : Ob TX w lo' hi' u l) (hz : psz x ≤ 1048576) :
    Calls Try.prog 48 #[v, u] w fun e w' => ∃ v', e = .returned v' ∧ Ob (PO 92) w' w.heap.size w'.heap.size v' (resP x l) ∧ Up w w' := by
  have hlen := psz_len x
  obtain ⟨a, cap, rfl⟩ := h.1.form
  obtain ⟨i0, hi0, hz0, hz1, hz2⟩ := info_parts Try.infoPair
  have HV := Lib.hid h
  have HL := Lib.hid h'
  clear h h'
  go_enter Try.func48, Try.ntmps48
  go_wp2_with fail
  go_loopw [5, 10] (fun o i wr => ∃ (k : Nat), k ≤ x.length ∧ i = .int .i64 k ∧ Up w wr ∧ Hid (PO 92 wr w.heap.size wr.heap.size o ((x.take k).filter fun p => hasB l p.1))) (fun _ i _ => x.length - (intOf i).toNat)
  case atStart => exact ⟨0, Nat.zero_le _, rfl, Up.rf w, PO.nil_ _ _ _ _⟩
  case round =>
    obtain ⟨k, hk, rfl, hb, HP⟩ := hrel
    by_cases hlt : k < x.length
    · obtain ⟨b, off, rfl, c0, c1⟩ := SP.at (HV.out.up hb).1 hlt
      have i1 : (0 : Int) ≤ (k : Int) := by omega
      have i2 : (k : Int) < (x.length : Int) := by omega
      have HU := Lib.hid (show Up wr (wr.alloc (.cells #[.string x[k].1, .string x[k].2] 92)) from Up.al1 _ _)
      have HO1 := Lib.hid (((show Ob (PO 92) wr w.heap.size wr.heap.size _ _ from ⟨HP.out, Nat.le_refl _⟩).up HU.out).1)
      have HB1 := Lib.hid (hb.tr HU.out)
      have hln := filter_take_len x (fun p => hasB l p.1) k
      have hln2 : ((x.take k).filter fun p => hasB l p.1).length ≤ 4194304 := by omega
      have hn9 := news2 (Blk.new (wr.alloc (.cells #[.string x[k].1, .string x[k].2] 92)) 92 #[.string x[k].1, .string x[k].2])
      have hz9 : (wr.alloc (.cells #[.string x[k].1, .string x[k].2] 92)).heap.size = wr.heap.size + 1 := by simp
      rw [hz9] at hn9
      clear hz9
      have HN := Lib.hid hn9
      have hba : w.heap.size ≤ ((wr.alloc (.cells #[.string x[k].1, .string x[k].2] 92)).alloc (.cells #[.string x[k].1, .string x[k].2] 92)).heap.size := by have := hb.size; simp; omega
      clear HP hln hn9
      cases hq : hasB l x[k].1
      · have HF : Hid ((x.take (k + 1)).filter (fun p => hasB l p.1) = (x.take k).filter fun p => hasB l p.1) := filter_take_f hlt hq
        go_wp2_with (go_at_call 81; refine (chasT (HL.out.up HB1.out)).mono ?_; rintro e w1 ⟨rfl, rfl⟩; rw [hq])
        have hs := HU.out.size
        refine ⟨⟨k+1, by omega, by go_num, HB1.out, ?_⟩, by simp [intOf]; omega⟩
        show PO _ _ _ _ _ _
        rw [HF.out]
        exact HO1.out.mono (Nat.le_refl _) hs
      · have HF : Hid ((x.take (k + 1)).filter (fun p => hasB l p.1) = ((x.take k).filter fun p => hasB l p.1) ++ [x[k]]) := filter_take_t hlt hq
        go_wp2_with (first
          | (go_at_call 81; refine (chasT (HL.out.up HB1.out)).mono ?_; rintro e w1 ⟨rfl, rfl⟩; rw [hq])
          | (at_builtin; refine wpList_append_own _ rfl _ _ 64 rfl w.heap.size 92 i0 _ 2 32 Try.underlying64 hi0 hz0 hz1 hz2 rfl (by decide) _ ((x.take k).filter fun p => hasB l p.1).length (flatP ((x.take k).filter fun p => hasB l p.1)) rfl (HO1.out.1.alloc _) ⟨wr.heap.size + 1, 0, none⟩ 1 1 [.string x[k].1, .string x[k].2] rfl rfl HN.out (one2 rfl rfl) (by unfold maxLen; omega) (by omega) hba ?_; intro v2 w2 hown' hgrow _))
        have hP2 : Hid (PO 92 w2 w.heap.size w2.heap.size v2 ((x.take (k + 1)).filter fun p => hasB l p.1)) := by show PO _ _ _ _ _ _; rw [HF.out]; exact PO.snoc hown'
        have hb2 : Up w w2 := (HB1.out.al _).grown hgrow (fun g hg => (HO1.out.1.lt g hg).1)
        clear hown' hgrow HO1 HB1 HN
        go_wp2
        exact ⟨⟨k+1, by omega, by go_num, hb2, hP2.out⟩, by simp [intOf]; omega⟩
    · go_wp2
      go_ret
      have e : ((x.take k).filter fun p => hasB l p.1) = resP x l := by rw [List.take_of_length_le (by omega)]; rfl
      exact ⟨_, rfl, ⟨by rw [← e]; exact HP.out, Nat.le_refl _⟩, hb⟩
set_option maxHeartbeats 1000000 in
theorem cRestrictS {v u : Value} {x : Prs} {l : List ByteArray} {lo hi lo' hi' : Nat} {w : World} (h : Ob SP w lo hi v x) (h' : Ob TX w lo' hi' u l) (hz : psz x ≤ 1048576) :
    Calls Try.prog 45 #[v, u] w fun e w' => ∃ v', e = .returned v' ∧ Ob (PO 92) w' w.heap.size w'.heap.size v' (resP x l) ∧ Up w w' := by
  have hlen := psz_len x
  obtain ⟨a, cap, rfl⟩ := h.1.form
  obtain ⟨i0, hi0, hz0, hz1, hz2⟩ := info_parts Try.infoPair
  have HV := Lib.hid h
  have HL := Lib.hid h'
  clear h h'
  go_enter Try.func45, Try.ntmps45
  go_wp2_with fail
  go_loopw [5, 6] (fun o i wr => ∃ (k : Nat), k ≤ x.length ∧ i = .int .i64 k ∧ Up w wr ∧ Hid (PO 92 wr w.heap.size wr.heap.size o ((x.take k).filter fun p => hasB l p.1))) (fun _ i _ => x.length - (intOf i).toNat)
  case atStart => exact ⟨0, Nat.zero_le _, rfl, Up.al1 _ _, PO.made_ _ _⟩
  case round =>
    obtain ⟨k, hk, rfl, hb, HP⟩ := hrel
    by_cases hlt : k < x.length
    · obtain ⟨b, off, rfl, c0, c1⟩ := SP.at (HV.out.up hb).1 hlt
      have i1 : (0 : Int) ≤ (k : Int) := by omega
      have i2 : (k : Int) < (x.length : Int) := by omega
      have HU := Lib.hid (show Up wr wr from Up.rf _)
      have HO1 := Lib.hid (((show Ob (PO 92) wr w.heap.size wr.heap.size _ _ from ⟨HP.out, Nat.le_refl _⟩).up HU.out).1)
      have HB1 := Lib.hid (hb.tr HU.out)
      have hln := filter_take_len x (fun p => hasB l p.1) k
      have hln2 : ((x.take k).filter fun p => hasB l p.1).length ≤ 4194304 := by omega
      have hn9 := news2 (Blk.new wr 92 #[.string x[k].1, .string x[k].2])
      have HN := Lib.hid hn9
      have hba : w.heap.size ≤ (wr.alloc (.cells #[.string x[k].1, .string x[k].2] 92)).heap.size := by have := hb.size; simp; omega
      clear HP hln hn9
      cases hq : hasB l x[k].1
      · have HF : Hid ((x.take (k + 1)).filter (fun p => hasB l p.1) = (x.take k).filter fun p => hasB l p.1) := filter_take_f hlt hq
        go_wp2_with (go_at_call 79; refine (chasTS (HL.out.up HB1.out)).mono ?_; rintro e w1 ⟨rfl, rfl⟩; rw [hq])
        have hs := HU.out.size
        refine ⟨⟨k+1, by omega, by go_num, HB1.out, ?_⟩, by simp [intOf]; omega⟩
        show PO _ _ _ _ _ _
        rw [HF.out]
        exact HO1.out.mono (Nat.le_refl _) hs
      · have HF : Hid ((x.take (k + 1)).filter (fun p => hasB l p.1) = ((x.take k).filter fun p => hasB l p.1) ++ [x[k]]) := filter_take_t hlt hq
        go_wp2_with (first
          | (go_at_call 79; refine (chasTS (HL.out.up HB1.out)).mono ?_; rintro e w1 ⟨rfl, rfl⟩; rw [hq])
          | (at_builtin; refine wpList_append_own _ rfl _ _ 64 rfl w.heap.size 92 i0 _ 2 32 Try.underlying64 hi0 hz0 hz1 hz2 rfl (by decide) _ ((x.take k).filter fun p => hasB l p.1).length (flatP ((x.take k).filter fun p => hasB l p.1)) rfl (HO1.out.1.alloc _) ⟨wr.heap.size, 0, none⟩ 1 1 [.string x[k].1, .string x[k].2] rfl rfl HN.out (one2 rfl rfl) (by unfold maxLen; omega) (by omega) hba ?_; intro v2 w2 hown' hgrow _))
        have hP2 : Hid (PO 92 w2 w.heap.size w2.heap.size v2 ((x.take (k + 1)).filter fun p => hasB l p.1)) := by show PO _ _ _ _ _ _; rw [HF.out]; exact PO.snoc hown'
        have hb2 : Up w w2 := (HB1.out.al _).grown hgrow (fun g hg => (HO1.out.1.lt g hg).1)
        clear hown' hgrow HO1 HB1 HN
        go_wp2
        exact ⟨⟨k+1, by omega, by go_num, hb2, hP2.out⟩, by simp [intOf]; omega⟩
    · go_wp2
      go_ret
      have e : ((x.take k).filter fun p => hasB l p.1) = resP x l := by rw [List.take_of_length_le (by omega)]; rfl
      exact ⟨_, rfl, ⟨by rw [← e]; exact HP.out, Nat.le_refl _⟩, hb⟩
end Go.Proofs.Ytpbnglpiadfjpaa
