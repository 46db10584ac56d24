/- A pair put into a binding, the reference's way (l3Set); Extend, the program's and the reference's; wherever the lengths can be counted. -/
import Derived.Test.YtojgkodffmdnpaaCopy
import Derived.Test.YtojgkodffmdnpaaPl4
namespace Go.Proofs.Ytojgkodffmdnpaa
open Go.RowKit
attribute [local go_sem ↓] Go.wp_at_zero Go.wp_at_succ
set_option linter.unusedVariables false
set_option maxHeartbeats 2000000 in
set_option maxRecDepth 100000 in
theorem cl3Set {val : Value} {x : Prs} {v u : ByteArray} {lo hi : Nat} {w : World} (h : Ob SP w lo hi val x) (hx : x.length ≤ 1048576) :
    Calls Try.prog 125 #[val, .string v, .string u] w fun e w' => ∃ v', e = .returned v' ∧ Ob (PO 111) w' w.heap.size w'.heap.size v' (insP x v u) ∧ Up w w' := by
  obtain ⟨a, cap, rfl⟩ := h.1.form
  obtain ⟨i0, hi0, hz0, hz1, hz2⟩ := info_parts Try.infoPair
  have HV := Lib.hid h
  clear h
  go_enter Try.func125, Try.ntmps125
  go_wp2_with fail
  go_loopw [7, 8, 9] (fun o d i wr => ∃ (k : Nat) (dn : Bool), k ≤ x.length ∧ i = .int .i64 k ∧ d = .bool dn ∧ Hid (dn = insD x v k) ∧ Up w wr ∧ Hid (PO 111 wr w.heap.size wr.heap.size o (insK x v u k))) (fun _ _ i _ => x.length - (intOf i).toNat)
  case atStart => exact ⟨0, false, Nat.zero_le _, rfl, rfl, (insD_0 x v).symm, Up.al1 _ _, by show PO _ _ _ _ _ _; rw [insK_0]; exact PO.made_ _ _⟩
  case round =>
    obtain ⟨k, dn, hk, rfl, rfl, HDN, hb, HP⟩ := hrel
    by_cases hlt : k < x.length
    · obtain ⟨b, off, rfl, c0, c1⟩ := SP.at (HV.out.up hb).1 hlt
      have i1 : (0 : Int) ≤ (k : Int) := by omega
      have i2 : (k : Int) < (x.length : Int) := by omega
      have hln := insK_len x v u k
      have hln2 : (insK x v u k).length ≤ 4194304 := by omega
      clear hln
      have HU := Lib.hid (Up.rf wr)
      have HO1 := Lib.hid (((show Ob (PO 111) wr w.heap.size wr.heap.size _ (insK x v u k) from ⟨HP.out, Nat.le_refl _⟩).up HU.out).1)
      have HB1 := Lib.hid (hb.tr HU.out)
      clear HP
      cases dn
      · cases h1 : Op.bytesLess x[k].1.toList v.toList
        · cases h2 : (x[k].1.toList == v.toList)
          · have hgt : gtS x[k].1 v = true := by unfold gtS; rw [h1, h2]; rfl
            have HE := Lib.hid (insK_gt (u := u) hlt HDN.out.symm hgt)
            have HD : Hid (true = insD x v (k + 1)) := by show _ = _; rw [insD_succ hlt, hgt]; simp
            clear hgt
            have hn9 := news2 (Blk.new wr 111 #[.string v, .string u])
            have HN := Lib.hid hn9
            clear hn9
            have hba1 : w.heap.size ≤ (wr.alloc (.cells #[.string v, .string u] 111)).heap.size := by have := hb.size; simp; omega
            go_wp2_with (first
              | (at_builtin; refine wpList_append_own _ rfl (.tmp 28) (.tmp 32) 35 rfl w.heap.size 111 i0 _ 2 32 Try.underlying35 hi0 hz0 hz1 hz2 rfl (by decide) _ (insK x v u k).length (flatP (insK x v u k)) rfl (HO1.out.1.alloc _) ⟨wr.heap.size, 0, none⟩ 1 1 [.string v, .string u] rfl rfl HN.out (one2 rfl rfl) (by unfold maxLen; omega) (by omega) hba1 ?_; intro v1 w1 hown' hgrow _
                 have hb1 : Up w w1 := (HB1.out.al _).grown hgrow (fun g hg => (HO1.out.1.lt g hg).1)
                 have hP1 : Hid (PO 111 w1 w.heap.size w1.heap.size v1 (insK x v u k ++ [(v, u)])) := PO.snoc hown'
                 obtain ⟨b9, off9, e9, d0, d1⟩ := SP.at (HV.out.up hb1).1 hlt; injection e9 with e9; injection e9 with e9a e9b; subst e9a e9b
                 have HN1 := Lib.hid (news2 (Blk.new w1 111 #[.string x[k].1, .string x[k].2]))
                 have hl1 : (insK x v u k ++ [(v, u)]).length ≤ 4194305 := by simp; omega
                 have hba2 : w.heap.size ≤ (w1.alloc (.cells #[.string x[k].1, .string x[k].2] 111)).heap.size := by have := hb1.size; simp; omega
                 clear hown' hgrow HB1 hba1)
              | (at_builtin; refine wpList_append_own _ rfl (.tmp 34) (.tmp 39) 35 rfl w.heap.size 111 i0 _ 2 32 Try.underlying35 hi0 hz0 hz1 hz2 rfl (by decide) _ (insK x v u k ++ [(v, u)]).length (flatP (insK x v u k ++ [(v, u)])) rfl (hP1.out.1.alloc _) ⟨w1.heap.size, 0, none⟩ 1 1 [.string x[k].1, .string x[k].2] rfl rfl HN1.out (one2 rfl rfl) (by unfold maxLen; omega) (by omega) hba2 ?_; intro v2 w2 hown' hgrow _))
            have hP2 : Hid (PO 111 w2 w.heap.size w2.heap.size v2 (insK x v u (k + 1))) := by show PO _ _ _ _ _ _; rw [HE.out]; exact PO.snoc hown'
            have hb2 : Up w w2 := (hb1.al _).grown hgrow (fun g hg => (hP1.out.1.lt g hg).1)
            clear hown' hgrow hP1 HN1
            go_wp2
            exact ⟨⟨k+1, _, by omega, by go_num, rfl, HD.out, hb2, hP2.out⟩, by simp [intOf]; omega⟩
          · have hgt : gtS x[k].1 v = false := by unfold gtS; rw [h1, h2]; rfl
            have HE := Lib.hid (insK_le (u := u) hlt HDN.out.symm hgt)
            have HD : Hid (false = insD x v (k + 1)) := by show _ = _; rw [insD_succ hlt, hgt, ← HDN.out]; rfl
            have hn9 := news2 (Blk.new wr 111 #[.string x[k].1, .string x[k].2])
            have HN := Lib.hid hn9
            clear hn9
            have hba2 : w.heap.size ≤ (wr.alloc (.cells #[.string x[k].1, .string x[k].2] 111)).heap.size := by have := hb.size; simp; omega
            go_wp2_with (at_builtin; refine wpList_append_own _ rfl (.tmp 34) (.tmp 39) 35 rfl w.heap.size 111 i0 _ 2 32 Try.underlying35 hi0 hz0 hz1 hz2 rfl (by decide) _ (insK x v u k).length (flatP (insK x v u k)) rfl (HO1.out.1.alloc _) ⟨wr.heap.size, 0, none⟩ 1 1 [.string x[k].1, .string x[k].2] rfl rfl HN.out (one2 rfl rfl) (by unfold maxLen; omega) (by omega) hba2 ?_; intro v2 w2 hown' hgrow _)
            have hP2 : Hid (PO 111 w2 w.heap.size w2.heap.size v2 (insK x v u (k + 1))) := by show PO _ _ _ _ _ _; rw [HE.out]; exact PO.snoc hown'
            have hb2 : Up w w2 := (HB1.out.al _).grown hgrow (fun g hg => (HO1.out.1.lt g hg).1)
            clear hown' hgrow HO1 HB1 HN
            go_wp2
            exact ⟨⟨k+1, _, by omega, by go_num, rfl, HD.out, hb2, hP2.out⟩, by simp [intOf]; omega⟩
        · have hgt : gtS x[k].1 v = false := by unfold gtS; rw [h1]; rfl
          have HE := Lib.hid (insK_le (u := u) hlt HDN.out.symm hgt)
          have HD : Hid (false = insD x v (k + 1)) := by show _ = _; rw [insD_succ hlt, hgt, ← HDN.out]; rfl
          have hn9 := news2 (Blk.new wr 111 #[.string x[k].1, .string x[k].2])
          have HN := Lib.hid hn9
          clear hn9
          have hba2 : w.heap.size ≤ (wr.alloc (.cells #[.string x[k].1, .string x[k].2] 111)).heap.size := by have := hb.size; simp; omega
          go_wp2_with (at_builtin; refine wpList_append_own _ rfl (.tmp 34) (.tmp 39) 35 rfl w.heap.size 111 i0 _ 2 32 Try.underlying35 hi0 hz0 hz1 hz2 rfl (by decide) _ (insK x v u k).length (flatP (insK x v u k)) rfl (HO1.out.1.alloc _) ⟨wr.heap.size, 0, none⟩ 1 1 [.string x[k].1, .string x[k].2] rfl rfl HN.out (one2 rfl rfl) (by unfold maxLen; omega) (by omega) hba2 ?_; intro v2 w2 hown' hgrow _)
          have hP2 : Hid (PO 111 w2 w.heap.size w2.heap.size v2 (insK x v u (k + 1))) := by show PO _ _ _ _ _ _; rw [HE.out]; exact PO.snoc hown'
          have hb2 : Up w w2 := (HB1.out.al _).grown hgrow (fun g hg => (HO1.out.1.lt g hg).1)
          clear hown' hgrow HO1 HB1 HN
          go_wp2
          exact ⟨⟨k+1, _, by omega, by go_num, rfl, HD.out, hb2, hP2.out⟩, by simp [intOf]; omega⟩
      · skip
        have HE := Lib.hid (insK_d (u := u) hlt HDN.out.symm)
        have HD : Hid (true = insD x v (k + 1)) := by show _ = _; rw [insD_succ hlt, ← HDN.out]; rfl
        have hn9 := news2 (Blk.new wr 111 #[.string x[k].1, .string x[k].2])
        have HN := Lib.hid hn9
        clear hn9
        have hba2 : w.heap.size ≤ (wr.alloc (.cells #[.string x[k].1, .string x[k].2] 111)).heap.size := by have := hb.size; simp; omega
        go_wp2_with (at_builtin; refine wpList_append_own _ rfl (.tmp 34) (.tmp 39) 35 rfl w.heap.size 111 i0 _ 2 32 Try.underlying35 hi0 hz0 hz1 hz2 rfl (by decide) _ (insK x v u k).length (flatP (insK x v u k)) rfl (HO1.out.1.alloc _) ⟨wr.heap.size, 0, none⟩ 1 1 [.string x[k].1, .string x[k].2] rfl rfl HN.out (one2 rfl rfl) (by unfold maxLen; omega) (by omega) hba2 ?_; intro v2 w2 hown' hgrow _)
        have hP2 : Hid (PO 111 w2 w.heap.size w2.heap.size v2 (insK x v u (k + 1))) := by show PO _ _ _ _ _ _; rw [HE.out]; exact PO.snoc hown'
        have hb2 : Up w w2 := (HB1.out.al _).grown hgrow (fun g hg => (HO1.out.1.lt g hg).1)
        clear hown' hgrow HO1 HB1 HN
        go_wp2
        exact ⟨⟨k+1, _, by omega, by go_num, rfl, HD.out, hb2, hP2.out⟩, by simp [intOf]; omega⟩
    · cases dn
      · have HE : Hid (insK x v u k ++ [(v, u)] = insP x v u) := insK_end_n (by omega) HDN.out.symm
        have hln := insK_len x v u k
        have hln2 : (insK x v u k).length ≤ 4194304 := by omega
        clear hln
        have HN := Lib.hid (news2 (Blk.new wr 111 #[.string v, .string u]))
        have hba1 : w.heap.size ≤ (wr.alloc (.cells #[.string v, .string u] 111)).heap.size := by have := hb.size; simp; omega
        go_wp2_with (at_builtin; refine wpList_append_own _ rfl (.tmp 43) (.tmp 47) 35 rfl w.heap.size 111 i0 _ 2 32 Try.underlying35 hi0 hz0 hz1 hz2 rfl (by decide) _ (insK x v u k).length (flatP (insK x v u k)) rfl (HP.out.1.alloc _) ⟨wr.heap.size, 0, none⟩ 1 1 [.string v, .string u] rfl rfl HN.out (one2 rfl rfl) (by unfold maxLen; omega) (by omega) hba1 ?_; intro v1 w1 hown' hgrow _)
        have hb1 : Up w w1 := (hb.al _).grown hgrow (fun g hg => (HP.out.1.lt g hg).1)
        have hP1 : Hid (PO 111 w1 w.heap.size w1.heap.size v1 (insP x v u)) := by show PO _ _ _ _ _ _; rw [← HE.out]; exact PO.snoc hown'
        clear hown' hgrow HP HN
        go_wp2
        go_ret
        exact ⟨_, rfl, ⟨hP1.out, Nat.le_refl _⟩, hb1⟩
      · have HE : Hid (insK x v u k = insP x v u) := insK_end_d (by omega) HDN.out.symm
        have hP0 := HP.out
        rw [HE.out] at hP0
        have hP1 := Lib.hid hP0
        clear hP0
        go_wp2
        go_ret
        exact ⟨_, rfl, ⟨hP1.out, Nat.le_refl _⟩, hb⟩
set_option maxHeartbeats 4000000 in
set_option maxRecDepth 100000 in
theorem cExtend_new {val : Value} {x : Prs} {v u : ByteArray} {lo hi : Nat} {w : World} (h : Ob SP w lo hi val x) (h1 : isBindB x = true) (h2 : isVarB v = true) (h3 : isAtomB u = true) (h4 : valOk x v = false) (h5 : x.length < 6) :
    Calls Try.prog 109 #[val, .string v, .string u] w fun e w' => ∃ v', e = .returned (.tuple #[v', .bool true]) ∧ Ob (PO 111) w' w.heap.size w'.heap.size v' (insP x v u) ∧ Up w w' := by
  have hz := isBindB_psz h1
  have hzv := isVarB_size h2
  have hzu := (isAtomB_size h3).2
  obtain ⟨a, cap, rfl⟩ := h.1.form
  obtain ⟨i0, hi0, hz0, hz1, hz2⟩ := info_parts Try.infoPair
  have HV := Lib.hid h
  clear h
  have j1 : (x.length : Int) < 6 := by omega
  have H1 := Lib.hid h1
  have H2 := Lib.hid h2
  have H3 := Lib.hid h3
  have H4 := Lib.hid h4
  clear h1 h2 h3 h4
  go_enter Try.func109, Try.ntmps109
  go_wp2_with (first
    | (go_at_call 104; refine (cIsBinding HV.out (by omega)).mono ?_; rintro e w1 ⟨rfl, b1⟩; rw [H1.out])
    | (go_at_call 124; refine (var_any _ _ (by unfold maxLen; omega)).mono ?_; rintro e w' ⟨rfl, rfl⟩; rw [H2.out])
    | (go_at_call 93; refine (atom_any _ _ (by unfold maxLen; omega)).mono ?_; rintro e w' ⟨rfl, rfl⟩; rw [H3.out])
    | (go_at_call 105; refine (cValueOf (HV.out.up b1) (by omega)).mono ?_; rintro e w2 ⟨rfl, b2⟩; rw [H4.out]; have HB := Lib.hid (Up.tr b1 b2)))
  go_loopw [10, 11, 44] (fun o d i wr => ∃ (k : Nat) (dn : Bool), k ≤ x.length ∧ i = .int .i64 k ∧ d = .bool dn ∧ Hid (dn = insD x v k) ∧ Up w wr ∧ Hid (PO 111 wr w.heap.size wr.heap.size o (insK x v u k))) (fun _ _ i _ => x.length - (intOf i).toNat)
  case atStart => exact ⟨0, false, Nat.zero_le _, rfl, rfl, (insD_0 x v).symm, HB.out, by show PO _ _ _ _ _ _; rw [insK_0]; exact PO.nil_ _ _ _ _⟩
  case round =>
    obtain ⟨k, dn, hk, rfl, rfl, HDN, hb, HP⟩ := hrel
    by_cases hlt : k < x.length
    · obtain ⟨b, off, rfl, c0, c1⟩ := SP.at (HV.out.up hb).1 hlt
      have i1 : (0 : Int) ≤ (k : Int) := by omega
      have i2 : (k : Int) < (x.length : Int) := by omega
      have hln := insK_len x v u k
      have hln2 : (insK x v u k).length ≤ 4194304 := by omega
      clear hln
      have HU := Lib.hid (Up.al1 wr (.cells #[.string x[k].1, .string x[k].2] 111))
      have HK := Lib.hid (Blk.new wr 111 #[.string x[k].1, .string x[k].2])
      have HO1 := Lib.hid (((show Ob (PO 111) wr w.heap.size wr.heap.size _ (insK x v u k) from ⟨HP.out, Nat.le_refl _⟩).up HU.out).1)
      have HB1 := Lib.hid (hb.tr HU.out)
      clear HP
      cases dn
      · cases h1 : Op.bytesLess x[k].1.toList v.toList
        · cases h2 : (x[k].1.toList == v.toList)
          · have hgt : gtS x[k].1 v = true := by unfold gtS; rw [h1, h2]; rfl
            have HE := Lib.hid (insK_gt (u := u) hlt HDN.out.symm hgt)
            have HD : Hid (true = insD x v (k + 1)) := by show _ = _; rw [insD_succ hlt, hgt]; simp
            clear hgt
            have hn9 := news2 (Blk.new (wr.alloc (.cells #[.string x[k].1, .string x[k].2] 111)) 111 #[.string v, .string u])
            have hz9 : (wr.alloc (.cells #[.string x[k].1, .string x[k].2] 111)).heap.size = wr.heap.size + 1 := by simp
            rw [hz9] at hn9
            clear hz9
            have HN := Lib.hid hn9
            clear hn9
            have hba1 : w.heap.size ≤ ((wr.alloc (.cells #[.string x[k].1, .string x[k].2] 111)).alloc (.cells #[.string v, .string u] 111)).heap.size := by have := hb.size; simp; omega
            go_wp2_with (first
              | (at_builtin; refine wpList_append_own _ rfl (.tmp 56) (.tmp 60) 35 rfl w.heap.size 111 i0 _ 2 32 Try.underlying35 hi0 hz0 hz1 hz2 rfl (by decide) _ (insK x v u k).length (flatP (insK x v u k)) rfl (HO1.out.1.alloc _) ⟨wr.heap.size + 1, 0, none⟩ 1 1 [.string v, .string u] rfl rfl HN.out (one2 rfl rfl) (by unfold maxLen; omega) (by omega) hba1 ?_; intro v1 w1 hown' hgrow _
                 have hb1 : Up w w1 := (HB1.out.al _).grown hgrow (fun g hg => (HO1.out.1.lt g hg).1)
                 have hP1 : Hid (PO 111 w1 w.heap.size w1.heap.size v1 (insK x v u k ++ [(v, u)])) := PO.snoc hown'
                 have hK1 : Hid (Blk w1 wr.heap.size 111 #[.string x[k].1, .string x[k].2]) := ((hgrow.block wr.heap.size (HK.out.alloc (.cells #[.string v, .string u] 111)).lt (fun e => by have := HO1.out.2 wr.heap.size e.symm; omega)).trans (HK.out.alloc (.cells #[.string v, .string u] 111)))
                 have d0 := hK1.out.cell0; have d1 := hK1.out.cell1
                 have HN1 := Lib.hid (news2 (Blk.new w1 111 #[.string x[k].1, .string x[k].2]))
                 have hl1 : (insK x v u k ++ [(v, u)]).length ≤ 4194305 := by simp; omega
                 have hba2 : w.heap.size ≤ (w1.alloc (.cells #[.string x[k].1, .string x[k].2] 111)).heap.size := by have := hb1.size; simp; omega
                 clear hown' hgrow HB1 hba1)
              | (at_builtin; refine wpList_append_own _ rfl (.tmp 62) (.tmp 64) 35 rfl w.heap.size 111 i0 _ 2 32 Try.underlying35 hi0 hz0 hz1 hz2 rfl (by decide) _ (insK x v u k ++ [(v, u)]).length (flatP (insK x v u k ++ [(v, u)])) rfl (hP1.out.1.alloc _) ⟨w1.heap.size, 0, none⟩ 1 1 [.string x[k].1, .string x[k].2] rfl rfl HN1.out (one2 rfl rfl) (by unfold maxLen; omega) (by omega) hba2 ?_; intro v2 w2 hown' hgrow _))
            have hP2 : Hid (PO 111 w2 w.heap.size w2.heap.size v2 (insK x v u (k + 1))) := by show PO _ _ _ _ _ _; rw [HE.out]; exact PO.snoc hown'
            have hb2 : Up w w2 := (hb1.al _).grown hgrow (fun g hg => (hP1.out.1.lt g hg).1)
            clear hown' hgrow hP1 HN1
            go_wp2
            exact ⟨⟨k+1, _, by omega, by go_num, rfl, HD.out, hb2, hP2.out⟩, by simp [intOf]; omega⟩
          · have hgt : gtS x[k].1 v = false := by unfold gtS; rw [h1, h2]; rfl
            have HE := Lib.hid (insK_le (u := u) hlt HDN.out.symm hgt)
            have HD : Hid (false = insD x v (k + 1)) := by show _ = _; rw [insD_succ hlt, hgt, ← HDN.out]; rfl
            have hn9 := news2 (Blk.new (wr.alloc (.cells #[.string x[k].1, .string x[k].2] 111)) 111 #[.string x[k].1, .string x[k].2])
            have hz9 : (wr.alloc (.cells #[.string x[k].1, .string x[k].2] 111)).heap.size = wr.heap.size + 1 := by simp
            rw [hz9] at hn9
            clear hz9
            have HN := Lib.hid hn9
            clear hn9
            have hba2 : w.heap.size ≤ ((wr.alloc (.cells #[.string x[k].1, .string x[k].2] 111)).alloc (.cells #[.string x[k].1, .string x[k].2] 111)).heap.size := by have := hb.size; simp; omega
            go_wp2_with (at_builtin; refine wpList_append_own _ rfl (.tmp 62) (.tmp 64) 35 rfl w.heap.size 111 i0 _ 2 32 Try.underlying35 hi0 hz0 hz1 hz2 rfl (by decide) _ (insK x v u k).length (flatP (insK x v u k)) rfl (HO1.out.1.alloc _) ⟨wr.heap.size + 1, 0, none⟩ 1 1 [.string x[k].1, .string x[k].2] rfl rfl HN.out (one2 rfl rfl) (by unfold maxLen; omega) (by omega) hba2 ?_; intro v2 w2 hown' hgrow _)
            have hP2 : Hid (PO 111 w2 w.heap.size w2.heap.size v2 (insK x v u (k + 1))) := by show PO _ _ _ _ _ _; rw [HE.out]; exact PO.snoc hown'
            have hb2 : Up w w2 := (HB1.out.al _).grown hgrow (fun g hg => (HO1.out.1.lt g hg).1)
            clear hown' hgrow HO1 HB1 HN
            go_wp2
            exact ⟨⟨k+1, _, by omega, by go_num, rfl, HD.out, hb2, hP2.out⟩, by simp [intOf]; omega⟩
        · have hgt : gtS x[k].1 v = false := by unfold gtS; rw [h1]; rfl
          have HE := Lib.hid (insK_le (u := u) hlt HDN.out.symm hgt)
          have HD : Hid (false = insD x v (k + 1)) := by show _ = _; rw [insD_succ hlt, hgt, ← HDN.out]; rfl
          have hn9 := news2 (Blk.new (wr.alloc (.cells #[.string x[k].1, .string x[k].2] 111)) 111 #[.string x[k].1, .string x[k].2])
          have hz9 : (wr.alloc (.cells #[.string x[k].1, .string x[k].2] 111)).heap.size = wr.heap.size + 1 := by simp
          rw [hz9] at hn9
          clear hz9
          have HN := Lib.hid hn9
          clear hn9
          have hba2 : w.heap.size ≤ ((wr.alloc (.cells #[.string x[k].1, .string x[k].2] 111)).alloc (.cells #[.string x[k].1, .string x[k].2] 111)).heap.size := by have := hb.size; simp; omega
          go_wp2_with (at_builtin; refine wpList_append_own _ rfl (.tmp 62) (.tmp 64) 35 rfl w.heap.size 111 i0 _ 2 32 Try.underlying35 hi0 hz0 hz1 hz2 rfl (by decide) _ (insK x v u k).length (flatP (insK x v u k)) rfl (HO1.out.1.alloc _) ⟨wr.heap.size + 1, 0, none⟩ 1 1 [.string x[k].1, .string x[k].2] rfl rfl HN.out (one2 rfl rfl) (by unfold maxLen; omega) (by omega) hba2 ?_; intro v2 w2 hown' hgrow _)
          have hP2 : Hid (PO 111 w2 w.heap.size w2.heap.size v2 (insK x v u (k + 1))) := by show PO _ _ _ _ _ _; rw [HE.out]; exact PO.snoc hown'
          have hb2 : Up w w2 := (HB1.out.al _).grown hgrow (fun g hg => (HO1.out.1.lt g hg).1)
          clear hown' hgrow HO1 HB1 HN
          go_wp2
          exact ⟨⟨k+1, _, by omega, by go_num, rfl, HD.out, hb2, hP2.out⟩, by simp [intOf]; omega⟩
      · skip
        have HE := Lib.hid (insK_d (u := u) hlt HDN.out.symm)
        have HD : Hid (true = insD x v (k + 1)) := by show _ = _; rw [insD_succ hlt, ← HDN.out]; rfl
        have hn9 := news2 (Blk.new (wr.alloc (.cells #[.string x[k].1, .string x[k].2] 111)) 111 #[.string x[k].1, .string x[k].2])
        have hz9 : (wr.alloc (.cells #[.string x[k].1, .string x[k].2] 111)).heap.size = wr.heap.size + 1 := by simp
        rw [hz9] at hn9
        clear hz9
        have HN := Lib.hid hn9
        clear hn9
        have hba2 : w.heap.size ≤ ((wr.alloc (.cells #[.string x[k].1, .string x[k].2] 111)).alloc (.cells #[.string x[k].1, .string x[k].2] 111)).heap.size := by have := hb.size; simp; omega
        go_wp2_with (at_builtin; refine wpList_append_own _ rfl (.tmp 62) (.tmp 64) 35 rfl w.heap.size 111 i0 _ 2 32 Try.underlying35 hi0 hz0 hz1 hz2 rfl (by decide) _ (insK x v u k).length (flatP (insK x v u k)) rfl (HO1.out.1.alloc _) ⟨wr.heap.size + 1, 0, none⟩ 1 1 [.string x[k].1, .string x[k].2] rfl rfl HN.out (one2 rfl rfl) (by unfold maxLen; omega) (by omega) hba2 ?_; intro v2 w2 hown' hgrow _)
        have hP2 : Hid (PO 111 w2 w.heap.size w2.heap.size v2 (insK x v u (k + 1))) := by show PO _ _ _ _ _ _; rw [HE.out]; exact PO.snoc hown'
        have hb2 : Up w w2 := (HB1.out.al _).grown hgrow (fun g hg => (HO1.out.1.lt g hg).1)
        clear hown' hgrow HO1 HB1 HN
        go_wp2
        exact ⟨⟨k+1, _, by omega, by go_num, rfl, HD.out, hb2, hP2.out⟩, by simp [intOf]; omega⟩
    · cases dn
      · have HE : Hid (insK x v u k ++ [(v, u)] = insP x v u) := insK_end_n (by omega) HDN.out.symm
        have hln := insK_len x v u k
        have hln2 : (insK x v u k).length ≤ 4194304 := by omega
        clear hln
        have HN := Lib.hid (news2 (Blk.new wr 111 #[.string v, .string u]))
        have hba1 : w.heap.size ≤ (wr.alloc (.cells #[.string v, .string u] 111)).heap.size := by have := hb.size; simp; omega
        go_wp2_with (at_builtin; refine wpList_append_own _ rfl (.tmp 69) (.tmp 73) 35 rfl w.heap.size 111 i0 _ 2 32 Try.underlying35 hi0 hz0 hz1 hz2 rfl (by decide) _ (insK x v u k).length (flatP (insK x v u k)) rfl (HP.out.1.alloc _) ⟨wr.heap.size, 0, none⟩ 1 1 [.string v, .string u] rfl rfl HN.out (one2 rfl rfl) (by unfold maxLen; omega) (by omega) hba1 ?_; intro v1 w1 hown' hgrow _)
        have hb1 : Up w w1 := (hb.al _).grown hgrow (fun g hg => (HP.out.1.lt g hg).1)
        have hP1 : Hid (PO 111 w1 w.heap.size w1.heap.size v1 (insP x v u)) := by show PO _ _ _ _ _ _; rw [← HE.out]; exact PO.snoc hown'
        clear hown' hgrow HP HN
        go_wp2
        go_ret2
        exact ⟨_, rfl, ⟨hP1.out, Nat.le_refl _⟩, hb1⟩
      · have HE : Hid (insK x v u k = insP x v u) := insK_end_d (by omega) HDN.out.symm
        have hP0 := HP.out
        rw [HE.out] at hP0
        have hP1 := Lib.hid hP0
        clear hP0
        go_wp2
        go_ret2
        exact ⟨_, rfl, ⟨hP1.out, Nat.le_refl _⟩, hb⟩
end Go.Proofs.Ytojgkodffmdnpaa
