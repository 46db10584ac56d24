/- Instance, the program's and the reference's: one plain function of the pattern and the binding; wherever the lengths can be counted. -/
import Derived.Test.YtojgkodffmdnpaaMatch
namespace Go.Proofs.Ytojgkodffmdnpaa
open Go.RowKit
attribute [local go_sem ↓] Go.wp_at_zero Go.wp_at_succ
set_option linter.unusedVariables false
theorem insV_1 {p : FactV} {y : Prs} (h : isPatB p = false) : insV p y = none := by unfold insV; rw [h]; simp
theorem insV_2 {p : FactV} {y : Prs} (h : isBindB y = false) : insV p y = none := by unfold insV; rw [h]; simp
theorem insV_3 {p : FactV} {y : Prs} {k : Nat} (hk : k < p.args.length) (h : valOk y p.args[k] = false) : insV p y = none := by
  unfold insV
  have : p.args.all (valOk y) = false := List.all_eq_false.2 ⟨_, List.getElem_mem hk, by rw [h]; simp⟩
  rw [this]; simp
theorem insV_0 {p : FactV} {y : Prs} (h1 : isPatB p = true) (h2 : isBindB y = true) (h : p.args.all (valOk y) = true) : insV p y = some ⟨p.rel, p.args.map (valS y)⟩ := by
  unfold insV; rw [h1, h2, h]; simp
theorem FO.zero_ {E : TypeId} {w : World} {lo : Nat} {o : Option FactV} (h : o = none) : Ob (FO E) w lo w.heap.size (.agg #[.string ⟨#[]⟩, .slice none 0 0]) (oF o) := by
  rw [h]; exact ⟨⟨_, rfl, TO.nil_ _ _ _ _⟩, Nat.le_refl _⟩
theorem oF_ct (p : FactV) (y : Prs) : (oF (insV p y)).args.length ≤ p.args.length := by
  unfold insV; split
  · split <;> simp [oF, fV0]
  · simp [oF, fV0]
theorem valS_size {y : Prs} {t : ByteArray} (hy : isBindB y = true) (h : valOk y t = true) : (valS y t).size ≤ 8 := by
  unfold valOk valueB at h; unfold valS valueB
  split at h
  · rename_i ha; rw [if_pos ha]; exact (isAtomB_size ha).2
  · rename_i ha
    rw [if_neg ha]
    split at h
    · rename_i hv
      rw [if_pos hv]
      unfold findP at h ⊢
      cases hf : y.find? (fun p => decide (p.1 = t)) with
      | none => rw [hf] at h; simp at h
      | some q =>
        have hm := List.mem_of_find?_eq_some hf
        obtain ⟨k, hk, rfl⟩ := List.mem_iff_getElem.1 hm
        have := (isBindB_at hy hk).2
        simpa using (isAtomB_size this).2
    · simp at h
theorem oF_ins_fsz {p : FactV} {y : Prs} (hz : fsz p ≤ 1048576) : fsz (oF (insV p y)) ≤ 4194304 := by
  unfold insV
  split
  · rename_i hg
    simp only [Bool.and_eq_true] at hg
    split
    · rename_i ha
      rw [List.all_eq_true] at ha
      have h3 : p.args.length ≤ 3 := by
        have := hg.1; unfold isPatB at this; simp only [Bool.and_eq_true, decide_eq_true_eq] at this; exact this.1.2
      have hs : tsum (p.args.map (valS y)) ≤ p.args.length * 8 := by
        suffices h : ∀ L : List ByteArray, (∀ s ∈ L, valOk y s = true) → tsum (L.map (valS y)) ≤ L.length * 8 from h _ ha
        intro L
        induction L with
        | nil => simp [tsum]
        | cons a r ih =>
          intro hL
          have h1 := valS_size hg.2 (hL a (by simp))
          have h2 := ih fun s hs => hL s (by simp [hs])
          simp only [List.map_cons, tsum, List.length_cons, Nat.add_mul, Nat.one_mul]; omega
      simp only [oF, Option.getD_some]
      unfold fsz tsz at hz ⊢
      simp only [List.length_map]
      omega
    · simp [oF, fV0, fsz, tsz, tsum, ByteArray.size]
  · simp [oF, fV0, fsz, tsz, tsum, ByteArray.size]
set_option maxHeartbeats 4000000 in
set_option maxRecDepth 100000 in
theorem cInst {vp vy : Value} {p : FactV} {y : Prs} {lo hi lo' hi' : Nat} {w : World} (hp : Ob AF w lo hi vp p) (hy : Ob SP w lo' hi' vy y) (zp : fsz p ≤ 1048576) (zy : psz y ≤ 1048576) :
    Calls Try.prog 49 #[vp, vy] w fun e w' => ∃ v', e = .returned (.tuple #[v', .bool (insV p y).isSome]) ∧ Ob (FO 9) w' w.heap.size w'.heap.size v' (oF (insV p y)) ∧ Up w w' := by
  obtain ⟨pa, pc, rfl⟩ := hp.1.form
  obtain ⟨ya, yc, rfl⟩ := hy.1.form
  obtain ⟨i0, hi0, hz0, hz1, hz2⟩ := info_parts Try.infoStr
  have hb0 : Up w ((w.alloc (.cells #[.string p.rel, .slice pa p.args.length pc] 30)).alloc (.cells #[.string ⟨#[]⟩, .slice none 0 0] 79)) := (Up.al1 _ _).al _
  have hk0 : Blk ((w.alloc (.cells #[.string p.rel, .slice pa p.args.length pc] 30)).alloc (.cells #[.string ⟨#[]⟩, .slice none 0 0] 79)) w.heap.size 30 #[.string p.rel, .slice pa p.args.length pc] := (Blk.new w 30 #[.string p.rel, .slice pa p.args.length pc]).alloc _
  have hk1 : Blk ((w.alloc (.cells #[.string p.rel, .slice pa p.args.length pc] 30)).alloc (.cells #[.string ⟨#[]⟩, .slice none 0 0] 79)) (w.heap.size + 1) 79 #[.string ⟨#[]⟩, .slice none 0 0] := by
    have := Blk.new (w.alloc (.cells #[.string p.rel, .slice pa p.args.length pc] 30)) 79 #[.string ⟨#[]⟩, .slice none 0 0]
    simpa using this
  have hws : ((w.alloc (.cells #[.string p.rel, .slice pa p.args.length pc] 30)).alloc (.cells #[.string ⟨#[]⟩, .slice none 0 0] 79)).heap.size = w.heap.size + 2 := by simp
  have HP := Lib.hid (hp.up hb0); have HY := Lib.hid (hy.up hb0); have HPT := Lib.hid (AF.tx9 (hp.up hb0))
  have plen := (AF.tx9 hp).1.len
  have KP := Lib.hid hk0; have KR := Lib.hid hk1; have HB := Lib.hid hb0; have HWS := Lib.hid hws
  clear hp hy hb0 hk0 hk1 hws
  cases h1 : isPatB p
  · have HE := Lib.hid (insV_1 (y := y) h1)
    go_enter Try.func49, Try.ntmps49
    go_wp2_with fail
    generalize ((w.alloc (.cells #[.string p.rel, .slice pa p.args.length pc] 30)).alloc (.cells #[.string ⟨#[]⟩, .slice none 0 0] 79)) = W at *
    refine (cIsPattern HP.out zp).mono ?_
    rintro e w1 ⟨rfl, b1⟩
    rw [h1]
    have KR1 := Lib.hid (KR.out.up b1)
    have HB1 := Lib.hid (HB.out.tr b1)
    clear b1
    have r0 := KR1.out.cell0; have r1 := KR1.out.cell1; have fr0 := KR1.out.frozen 0; have fr1 := KR1.out.frozen 1
    go_wp2
    clear r0 r1 fr0 fr1
    have hK : Blk ((w1.setCell ⟨w.heap.size + 1, 0, none⟩ (.string ⟨#[]⟩)).setCell ⟨w.heap.size + 1, 1, none⟩ (.slice none 0 0)) (w.heap.size + 1) 79 #[.string ⟨#[]⟩, .slice none 0 0] := by
      have := (KR1.out.set_ 0 (.string ⟨#[]⟩)).set_ 1 (.slice none 0 0)
      simpa using this
    have hB : Up w ((w1.setCell ⟨w.heap.size + 1, 0, none⟩ (.string ⟨#[]⟩)).setCell ⟨w.heap.size + 1, 1, none⟩ (.slice none 0 0)) := ((HB1.out.setCell (p := ⟨w.heap.size + 1, 0, none⟩) (by simp) _).setCell (p := ⟨w.heap.size + 1, 1, none⟩) (by simp) _)
    generalize ((w1.setCell ⟨w.heap.size + 1, 0, none⟩ (.string ⟨#[]⟩)).setCell ⟨w.heap.size + 1, 1, none⟩ (.slice none 0 0)) = W4 at *
    have e0 := hK.cell0; have e1 := hK.cell1
    refine bodyPost_ret (v := .tuple #[.agg #[.string ⟨#[]⟩, .slice none 0 0], .bool false]) (by simp [results, Try.results49, go_sem, e0, e1]) rfl ?_
    exact ⟨_, ret_pb (by rw [HE.out]; rfl), FO.zero_ HE.out, hB⟩
  cases h2 : isBindB y
  · have HE := Lib.hid (insV_2 (p := p) h2)
    go_enter Try.func49, Try.ntmps49
    go_wp2_with fail
    generalize ((w.alloc (.cells #[.string p.rel, .slice pa p.args.length pc] 30)).alloc (.cells #[.string ⟨#[]⟩, .slice none 0 0] 79)) = W at *
    refine (cIsPattern HP.out zp).mono ?_
    rintro e w1 ⟨rfl, b1⟩
    rw [h1]
    go_wp2_with fail
    refine (cIsBinding (HY.out.up b1) zy).mono ?_
    rintro e w2 ⟨rfl, b2⟩
    rw [h2]
    have KR1 := Lib.hid (KR.out.up (Up.tr b1 b2)); have KP1 := Lib.hid (KP.out.up (Up.tr b1 b2)); have HY1 := Lib.hid (HY.out.up (Up.tr b1 b2)); have HPT1 := Lib.hid (HPT.out.up (Up.tr b1 b2))
    have HB1 := Lib.hid (HB.out.tr (Up.tr b1 b2))
    have hw2 : w.heap.size + 2 ≤ w2.heap.size := by have := (Up.tr b1 b2).size; have := HWS.out; omega
    clear b1 b2
    have r0 := KR1.out.cell0; have r1 := KR1.out.cell1; have fr0 := KR1.out.frozen 0; have fr1 := KR1.out.frozen 1
    go_wp2
    clear r0 r1 fr0 fr1
    have hK : Blk ((w2.setCell ⟨w.heap.size + 1, 0, none⟩ (.string ⟨#[]⟩)).setCell ⟨w.heap.size + 1, 1, none⟩ (.slice none 0 0)) (w.heap.size + 1) 79 #[.string ⟨#[]⟩, .slice none 0 0] := by
      have := (KR1.out.set_ 0 (.string ⟨#[]⟩)).set_ 1 (.slice none 0 0)
      simpa using this
    have hB : Up w ((w2.setCell ⟨w.heap.size + 1, 0, none⟩ (.string ⟨#[]⟩)).setCell ⟨w.heap.size + 1, 1, none⟩ (.slice none 0 0)) := ((HB1.out.setCell (p := ⟨w.heap.size + 1, 0, none⟩) (by simp) _).setCell (p := ⟨w.heap.size + 1, 1, none⟩) (by simp) _)
    generalize ((w2.setCell ⟨w.heap.size + 1, 0, none⟩ (.string ⟨#[]⟩)).setCell ⟨w.heap.size + 1, 1, none⟩ (.slice none 0 0)) = W4 at *
    have e0 := hK.cell0; have e1 := hK.cell1
    refine bodyPost_ret (v := .tuple #[.agg #[.string ⟨#[]⟩, .slice none 0 0], .bool false]) (by simp [results, Try.results49, go_sem, e0, e1]) rfl ?_
    exact ⟨_, ret_pb (by rw [HE.out]; rfl), FO.zero_ HE.out, hB⟩
  have H1 := Lib.hid h1; have H2 := Lib.hid h2
  have HL3 : p.args.length ≤ 3 := by have h := h1; unfold isPatB at h; simp only [Bool.and_eq_true, decide_eq_true_eq] at h; exact h.1.2
  go_enter Try.func49, Try.ntmps49
  go_wp2_with fail
  generalize ((w.alloc (.cells #[.string p.rel, .slice pa p.args.length pc] 30)).alloc (.cells #[.string ⟨#[]⟩, .slice none 0 0] 79)) = W at *
  refine (cIsPattern HP.out zp).mono ?_
  rintro e w1 ⟨rfl, b1⟩
  rw [h1]
  go_wp2_with fail
  refine (cIsBinding (HY.out.up b1) zy).mono ?_
  rintro e w2 ⟨rfl, b2⟩
  rw [h2]
  have KR1 := Lib.hid (KR.out.up (Up.tr b1 b2)); have KP1 := Lib.hid (KP.out.up (Up.tr b1 b2)); have HY1 := Lib.hid (HY.out.up (Up.tr b1 b2)); have HPT1 := Lib.hid (HPT.out.up (Up.tr b1 b2))
  have HB1 := Lib.hid (HB.out.tr (Up.tr b1 b2))
  have hw2 : w.heap.size + 2 ≤ w2.heap.size := by have := (Up.tr b1 b2).size; have := HWS.out; omega
  clear b1 b2
  clear h1 h2 HP HY HPT KP KR HB
  have k0 := KP1.out.cell0; have k1 := KP1.out.cell1
  have k2 := (KP1.out.alloc (.cells #[.string p.rel, .slice none 0 0] 79)).cell1
  go_wp2_with fail
  clear k0 k1 k2
  have HK3 := Lib.hid (Blk.new w2 79 #[.string p.rel, .slice none 0 0])
  have hu3 : Up w2 (w2.alloc (.cells #[.string p.rel, .slice none 0 0] 79)) := Up.al1 _ _
  have hs3 : (w2.alloc (.cells #[.string p.rel, .slice none 0 0] 79)).heap.size = w2.heap.size + 1 := by simp
  have HU3 := Lib.hid hu3; have HS3 := Lib.hid hs3; clear hu3 hs3
  generalize (w2.alloc (.cells #[.string p.rel, .slice none 0 0] 79)) = W3 at *
  go_loopw [26] (fun i wr => ∃ (k : Nat) (ov : Value), k ≤ p.args.length ∧ i = .int .i64 k ∧ Up w2 wr ∧ w2.heap.size < wr.heap.size ∧ Hid (Blk wr w2.heap.size 79 #[.string p.rel, ov]) ∧ Hid (TO 9 wr (w2.heap.size + 1) wr.heap.size ov ((p.args.take k).map (valS y))) ∧ Hid ((p.args.take k).all (valOk y) = true)) (fun i _ => p.args.length - (intOf i).toNat)
  case atStart => exact ⟨0, _, Nat.zero_le _, rfl, HU3.out, by have := HS3.out; omega, HK3.out, TO.nil_ _ _ _ _, rfl⟩
  case round =>
    clear HK3 HU3 HS3
    obtain ⟨k, ov, hk, rfl, hb, hgs, HK, HTO, HA⟩ := hrel
    have k1 := (KP1.out.up hb).cell1
    by_cases hlt : k < p.args.length
    · obtain ⟨b, off, rfl, -, -, c0⟩ := (HPT1.out.up hb).1.at hlt
      have i1 : (0 : Int) ≤ (k : Int) := by omega
      have i2 : (k : Int) < (p.args.length : Int) := by omega
      have hsp := fsz_arg' zp k hlt
      cases hv : valOk y p.args[k]
      · have HE := Lib.hid (insV_3 hlt hv)
        go_wp2_with fail
        clear k1 c0
        refine (cValueOf (HY1.out.up hb) hsp).mono ?_
        rintro e w5 ⟨rfl, b5⟩
        rw [hv]
        have HB5 := Lib.hid (HB1.out.tr (hb.tr b5))
        have KR5 := Lib.hid (KR1.out.up (hb.tr b5))
        clear b5 hb
        have r0 := KR5.out.cell0; have r1 := KR5.out.cell1; have fr0 := KR5.out.frozen 0; have fr1 := KR5.out.frozen 1
        go_wp2
        clear r0 r1 fr0 fr1
        have hK : Blk ((w5.setCell ⟨w.heap.size + 1, 0, none⟩ (.string ⟨#[]⟩)).setCell ⟨w.heap.size + 1, 1, none⟩ (.slice none 0 0)) (w.heap.size + 1) 79 #[.string ⟨#[]⟩, .slice none 0 0] := by
          have := (KR5.out.set_ 0 (.string ⟨#[]⟩)).set_ 1 (.slice none 0 0)
          simpa using this
        have hB : Up w ((w5.setCell ⟨w.heap.size + 1, 0, none⟩ (.string ⟨#[]⟩)).setCell ⟨w.heap.size + 1, 1, none⟩ (.slice none 0 0)) := ((HB5.out.setCell (p := ⟨w.heap.size + 1, 0, none⟩) (by simp) _).setCell (p := ⟨w.heap.size + 1, 1, none⟩) (by simp) _)
        generalize ((w5.setCell ⟨w.heap.size + 1, 0, none⟩ (.string ⟨#[]⟩)).setCell ⟨w.heap.size + 1, 1, none⟩ (.slice none 0 0)) = W4 at *
        have e0 := hK.cell0; have e1 := hK.cell1
        refine bodyPost_ret (v := .tuple #[.agg #[.string ⟨#[]⟩, .slice none 0 0], .bool false]) (by simp [results, Try.results49, go_sem, e0, e1]) rfl ?_
        exact ⟨_, ret_pb (by rw [HE.out]; rfl), FO.zero_ HE.out, hB⟩
      · have HA2 : Hid ((p.args.take (k + 1)).all (valOk y) = true) := by show _ = _; rw [List.take_succ_eq_append_getElem hlt, List.all_append, HA.out]; simp [hv]
        have HM : Hid ((p.args.take (k + 1)).map (valS y) = (p.args.take k).map (valS y) ++ [valS y p.args[k]]) := map_take_succ hlt
        have hl : ((p.args.take k).map (valS y)).length ≤ 3 := by simp; omega
        have hl6 : ((p.args.take (k + 1)).map (valS y)).length = k + 1 := by simp; omega
        go_wp2_with fail
        clear k1 c0
        refine (cValueOf (HY1.out.up hb) hsp).mono ?_
        rintro e w5 ⟨rfl, b5⟩
        rw [hv]
        have KF5 := Lib.hid (HK.out.up b5)
        have HTO5 := Lib.hid (show Ob (TO 9) w5 (w2.heap.size + 1) wr.heap.size ov _ from (show Ob (TO 9) wr (w2.heap.size + 1) wr.heap.size ov _ from ⟨HTO.out, Nat.le_refl _⟩).up b5)
        have HB5 := Lib.hid (hb.tr b5)
        have h5s : wr.heap.size ≤ w5.heap.size := b5.size
        clear b5 hb HK HTO
        have k0 := KF5.out.cell0; have k1 := KF5.out.cell1; have f0 := KF5.out.frozen 0; have f1 := KF5.out.frozen 1
        have HN := Lib.hid (news1 (Blk.new w5 9 #[.string (valS y p.args[k])]))
        have hba : w2.heap.size + 1 ≤ (w5.alloc (.cells #[.string (valS y p.args[k])] 9)).heap.size := by simp; omega
        go_wp2_with (at_builtin; refine wpList_append_own _ rfl _ _ 22 rfl (w2.heap.size + 1) 9 i0 _ 1 16 Try.underlying22 hi0 hz0 hz1 hz2 rfl (by decide) ov ((p.args.take k).map (valS y)).length (((p.args.take k).map (valS y)).map Value.string) rfl (HTO5.out.1.1.alloc _) ⟨w5.heap.size, 0, none⟩ 1 1 [.string (valS y p.args[k])] rfl rfl HN.out (one1 rfl) (by unfold maxLen; omega) (by omega) hba ?_; intro v6 w6 hown' hgrow _; have hne : ov.ownBlock ≠ some w2.heap.size := (fun h => by have := (HTO5.out.1.1.lt _ h).1; omega); have KF6 : Blk w6 w2.heap.size 79 #[.string p.rel, ov] := ((hgrow.block w2.heap.size (KF5.out.alloc (.cells #[.string (valS y p.args[k])] 9)).lt (fun h => hne h.symm)).trans (KF5.out.alloc (.cells #[.string (valS y p.args[k])] 9))); clear k0 k1 f0 f1; have k0 := KF6.cell0; have k1 := KF6.cell1; have f0 := KF6.frozen 0; have f1 := KF6.frozen 1; have HKF6 := Lib.hid KF6; have HTO6 : Hid (TO 9 w6 (w2.heap.size + 1) w6.heap.size v6 ((p.args.take (k + 1)).map (valS y))) := (by show TO _ _ _ _ _ _; rw [HM.out]; exact TO.snoc hown'); obtain ⟨a6, c6, e6⟩ := HTO6.out.tx.form; rw [hl6] at e6; subst e6; have HB6 : Hid (Up w2 w6) := (HB5.out.al _).grown hgrow (fun g hg => by have := (HTO5.out.1.1.lt g hg).1; omega); have hs6 : w5.heap.size + 1 ≤ w6.heap.size := (by have := hgrow.size; simpa using this); clear hown' hgrow KF6 hne)
        clear k0 k1 f0 f1
        have hK7 : Blk (w6.setCell ⟨w2.heap.size, 1, none⟩ (.slice a6 (k + 1) c6)) w2.heap.size 79 #[.string p.rel, (.slice a6 (k + 1) c6)] := by have := HKF6.out.set_ 1 (.slice a6 (k + 1) c6); simpa using this
        have hB7 : Up w2 (w6.setCell ⟨w2.heap.size, 1, none⟩ (.slice a6 (k + 1) c6)) := HB6.out.setCell (p := ⟨w2.heap.size, 1, none⟩) (Nat.le_refl _) _
        have hz7 : w6.heap.size = (w6.setCell ⟨w2.heap.size, 1, none⟩ (.slice a6 (k + 1) c6)).heap.size := by simp [World.setCell]
        have hT7 := (HTO6.out.keep ((Stays.refl w6 (w2.heap.size + 1) w6.heap.size).setCell (p := ⟨w2.heap.size, 1, none⟩) (.inl (by simp)) (.slice a6 (k + 1) c6))).mono (Nat.le_refl _) (Nat.le_of_eq hz7)
        exact ⟨⟨k+1, (.slice a6 (k + 1) c6), by omega, by go_num, hB7, by omega, hK7, hT7, HA2.out⟩, by simp [intOf]; omega⟩
    · have HE : Hid (insV p y = some ⟨p.rel, (p.args.take k).map (valS y)⟩) := by
        have h := HA.out
        rw [List.take_of_length_le (by omega)] at h ⊢
        exact insV_0 H1.out H2.out h
      have KR5 := Lib.hid (KR1.out.up hb)
      have HB5 := Lib.hid (HB1.out.tr hb)
      obtain ⟨oa, oc, e6⟩ := HTO.out.tx.form
      have hl6 : ((p.args.take k).map (valS y)).length = k := by simp; omega
      rw [hl6] at e6
      subst e6
      clear hl6
      replace HTO := Lib.hid (HTO.out.mono (show w.heap.size + 2 ≤ w2.heap.size + 1 by omega) (Nat.le_refl _))
      have g0 := HK.out.cell0; have g1 := HK.out.cell1
      have r0 := KR5.out.cell0; have r1 := KR5.out.cell1; have fr0 := KR5.out.frozen 0; have fr1 := KR5.out.frozen 1
      go_wp2
      clear r0 r1 fr0 fr1 g0 g1 k1
      have hK : Blk ((wr.setCell ⟨w.heap.size + 1, 0, none⟩ (.string p.rel)).setCell ⟨w.heap.size + 1, 1, none⟩ (.slice oa k oc)) (w.heap.size + 1) 79 #[.string p.rel, .slice oa k oc] := by
        have := (KR5.out.set_ 0 (.string p.rel)).set_ 1 (.slice oa k oc)
        simpa using this
      have hB : Up w ((wr.setCell ⟨w.heap.size + 1, 0, none⟩ (.string p.rel)).setCell ⟨w.heap.size + 1, 1, none⟩ (.slice oa k oc)) := ((HB5.out.setCell (p := ⟨w.heap.size + 1, 0, none⟩) (by simp) _).setCell (p := ⟨w.heap.size + 1, 1, none⟩) (by simp) _)
      have hT := (HTO.out.keep (((Stays.refl wr (w.heap.size + 2) wr.heap.size).setCell (p := ⟨w.heap.size + 1, 0, none⟩) (.inl (by simp)) (.string p.rel)).setCell (p := ⟨w.heap.size + 1, 1, none⟩) (.inl (by simp)) (.slice oa k oc))).mono (show w.heap.size ≤ w.heap.size + 2 by omega) (Nat.le_of_eq (show wr.heap.size = ((wr.setCell ⟨w.heap.size + 1, 0, none⟩ (.string p.rel)).setCell ⟨w.heap.size + 1, 1, none⟩ (.slice oa k oc)).heap.size by simp [World.setCell]))
      generalize ((wr.setCell ⟨w.heap.size + 1, 0, none⟩ (.string p.rel)).setCell ⟨w.heap.size + 1, 1, none⟩ (.slice oa k oc)) = W4 at *
      have e0 := hK.cell0; have e1 := hK.cell1
      refine bodyPost_ret (v := .tuple #[.agg #[.string p.rel, .slice oa k oc], .bool true]) (by simp [results, Try.results49, go_sem, e0, e1]) rfl ?_
      exact ⟨_, ret_pb (by rw [HE.out]; rfl), by rw [HE.out]; exact ⟨⟨_, rfl, hT⟩, Nat.le_refl _⟩, hB⟩
set_option maxHeartbeats 4000000 in
set_option maxRecDepth 100000 in
theorem cInstS {vp vy : Value} {p : FactV} {y : Prs} {lo hi lo' hi' : Nat} {w : World} (hp : Ob AF w lo hi vp p) (hy : Ob SP w lo' hi' vy y) (zp : fsz p ≤ 1048576) (zy : psz y ≤ 1048576) :
    Calls Try.prog 47 #[vp, vy] w fun e w' => ∃ v', e = .returned (.tuple #[v', .bool (insV p y).isSome]) ∧ Ob (FO 9) w' w.heap.size w'.heap.size v' (oF (insV p y)) ∧ Up w w' := by
  obtain ⟨pa, pc, rfl⟩ := hp.1.form
  obtain ⟨ya, yc, rfl⟩ := hy.1.form
  obtain ⟨i0, hi0, hz0, hz1, hz2⟩ := info_parts Try.infoStr
  have hb0 : Up w ((w.alloc (.cells #[.string p.rel, .slice pa p.args.length pc] 30)).alloc (.cells #[.string ⟨#[]⟩, .slice none 0 0] 79)) := (Up.al1 _ _).al _
  have hk0 : Blk ((w.alloc (.cells #[.string p.rel, .slice pa p.args.length pc] 30)).alloc (.cells #[.string ⟨#[]⟩, .slice none 0 0] 79)) w.heap.size 30 #[.string p.rel, .slice pa p.args.length pc] := (Blk.new w 30 #[.string p.rel, .slice pa p.args.length pc]).alloc _
  have hk1 : Blk ((w.alloc (.cells #[.string p.rel, .slice pa p.args.length pc] 30)).alloc (.cells #[.string ⟨#[]⟩, .slice none 0 0] 79)) (w.heap.size + 1) 79 #[.string ⟨#[]⟩, .slice none 0 0] := by
    have := Blk.new (w.alloc (.cells #[.string p.rel, .slice pa p.args.length pc] 30)) 79 #[.string ⟨#[]⟩, .slice none 0 0]
    simpa using this
  have hws : ((w.alloc (.cells #[.string p.rel, .slice pa p.args.length pc] 30)).alloc (.cells #[.string ⟨#[]⟩, .slice none 0 0] 79)).heap.size = w.heap.size + 2 := by simp
  have HP := Lib.hid (hp.up hb0); have HY := Lib.hid (hy.up hb0); have HPT := Lib.hid (AF.tx9 (hp.up hb0))
  have plen := (AF.tx9 hp).1.len
  have KP := Lib.hid hk0; have KR := Lib.hid hk1; have HB := Lib.hid hb0; have HWS := Lib.hid hws
  clear hp hy hb0 hk0 hk1 hws
  cases h1 : isPatB p
  · have HE := Lib.hid (insV_1 (y := y) h1)
    go_enter Try.func47, Try.ntmps47
    go_wp2_with fail
    generalize ((w.alloc (.cells #[.string p.rel, .slice pa p.args.length pc] 30)).alloc (.cells #[.string ⟨#[]⟩, .slice none 0 0] 79)) = W at *
    refine (cIsPatternS HP.out zp).mono ?_
    rintro e w1 ⟨rfl, b1⟩
    rw [h1]
    have KR1 := Lib.hid (KR.out.up b1)
    have HB1 := Lib.hid (HB.out.tr b1)
    clear b1
    have r0 := KR1.out.cell0; have r1 := KR1.out.cell1; have fr0 := KR1.out.frozen 0; have fr1 := KR1.out.frozen 1
    go_wp2
    clear r0 r1 fr0 fr1
    have hK : Blk ((w1.setCell ⟨w.heap.size + 1, 0, none⟩ (.string ⟨#[]⟩)).setCell ⟨w.heap.size + 1, 1, none⟩ (.slice none 0 0)) (w.heap.size + 1) 79 #[.string ⟨#[]⟩, .slice none 0 0] := by
      have := (KR1.out.set_ 0 (.string ⟨#[]⟩)).set_ 1 (.slice none 0 0)
      simpa using this
    have hB : Up w ((w1.setCell ⟨w.heap.size + 1, 0, none⟩ (.string ⟨#[]⟩)).setCell ⟨w.heap.size + 1, 1, none⟩ (.slice none 0 0)) := ((HB1.out.setCell (p := ⟨w.heap.size + 1, 0, none⟩) (by simp) _).setCell (p := ⟨w.heap.size + 1, 1, none⟩) (by simp) _)
    generalize ((w1.setCell ⟨w.heap.size + 1, 0, none⟩ (.string ⟨#[]⟩)).setCell ⟨w.heap.size + 1, 1, none⟩ (.slice none 0 0)) = W4 at *
    have e0 := hK.cell0; have e1 := hK.cell1
    refine bodyPost_ret (v := .tuple #[.agg #[.string ⟨#[]⟩, .slice none 0 0], .bool false]) (by simp [results, Try.results47, go_sem, e0, e1]) rfl ?_
    exact ⟨_, ret_pb (by rw [HE.out]; rfl), FO.zero_ HE.out, hB⟩
  cases h2 : isBindB y
  · have HE := Lib.hid (insV_2 (p := p) h2)
    go_enter Try.func47, Try.ntmps47
    go_wp2_with fail
    generalize ((w.alloc (.cells #[.string p.rel, .slice pa p.args.length pc] 30)).alloc (.cells #[.string ⟨#[]⟩, .slice none 0 0] 79)) = W at *
    refine (cIsPatternS HP.out zp).mono ?_
    rintro e w1 ⟨rfl, b1⟩
    rw [h1]
    go_wp2_with fail
    refine (cIsBindingS (HY.out.up b1) zy).mono ?_
    rintro e w2 ⟨rfl, b2⟩
    rw [h2]
    have KR1 := Lib.hid (KR.out.up (Up.tr b1 b2)); have KP1 := Lib.hid (KP.out.up (Up.tr b1 b2)); have HY1 := Lib.hid (HY.out.up (Up.tr b1 b2)); have HPT1 := Lib.hid (HPT.out.up (Up.tr b1 b2))
    have HB1 := Lib.hid (HB.out.tr (Up.tr b1 b2))
    have hw2 : w.heap.size + 2 ≤ w2.heap.size := by have := (Up.tr b1 b2).size; have := HWS.out; omega
    clear b1 b2
    have r0 := KR1.out.cell0; have r1 := KR1.out.cell1; have fr0 := KR1.out.frozen 0; have fr1 := KR1.out.frozen 1
    go_wp2
    clear r0 r1 fr0 fr1
    have hK : Blk ((w2.setCell ⟨w.heap.size + 1, 0, none⟩ (.string ⟨#[]⟩)).setCell ⟨w.heap.size + 1, 1, none⟩ (.slice none 0 0)) (w.heap.size + 1) 79 #[.string ⟨#[]⟩, .slice none 0 0] := by
      have := (KR1.out.set_ 0 (.string ⟨#[]⟩)).set_ 1 (.slice none 0 0)
      simpa using this
    have hB : Up w ((w2.setCell ⟨w.heap.size + 1, 0, none⟩ (.string ⟨#[]⟩)).setCell ⟨w.heap.size + 1, 1, none⟩ (.slice none 0 0)) := ((HB1.out.setCell (p := ⟨w.heap.size + 1, 0, none⟩) (by simp) _).setCell (p := ⟨w.heap.size + 1, 1, none⟩) (by simp) _)
    generalize ((w2.setCell ⟨w.heap.size + 1, 0, none⟩ (.string ⟨#[]⟩)).setCell ⟨w.heap.size + 1, 1, none⟩ (.slice none 0 0)) = W4 at *
    have e0 := hK.cell0; have e1 := hK.cell1
    refine bodyPost_ret (v := .tuple #[.agg #[.string ⟨#[]⟩, .slice none 0 0], .bool false]) (by simp [results, Try.results47, go_sem, e0, e1]) rfl ?_
    exact ⟨_, ret_pb (by rw [HE.out]; rfl), FO.zero_ HE.out, hB⟩
  have H1 := Lib.hid h1; have H2 := Lib.hid h2
  have HL3 : p.args.length ≤ 3 := by have h := h1; unfold isPatB at h; simp only [Bool.and_eq_true, decide_eq_true_eq] at h; exact h.1.2
  go_enter Try.func47, Try.ntmps47
  go_wp2_with fail
  generalize ((w.alloc (.cells #[.string p.rel, .slice pa p.args.length pc] 30)).alloc (.cells #[.string ⟨#[]⟩, .slice none 0 0] 79)) = W at *
  refine (cIsPatternS HP.out zp).mono ?_
  rintro e w1 ⟨rfl, b1⟩
  rw [h1]
  go_wp2_with fail
  refine (cIsBindingS (HY.out.up b1) zy).mono ?_
  rintro e w2 ⟨rfl, b2⟩
  rw [h2]
  have KR1 := Lib.hid (KR.out.up (Up.tr b1 b2)); have KP1 := Lib.hid (KP.out.up (Up.tr b1 b2)); have HY1 := Lib.hid (HY.out.up (Up.tr b1 b2)); have HPT1 := Lib.hid (HPT.out.up (Up.tr b1 b2))
  have HB1 := Lib.hid (HB.out.tr (Up.tr b1 b2))
  have hw2 : w.heap.size + 2 ≤ w2.heap.size := by have := (Up.tr b1 b2).size; have := HWS.out; omega
  clear b1 b2
  clear h1 h2 HP HY HPT KP KR HB
  have k0 := KP1.out.cell0; have k1 := KP1.out.cell1
  have k2 := (KP1.out.alloc (.cells #[.string p.rel, .slice none 0 0] 79)).cell1
  go_wp2_with fail
  clear k0 k1 k2
  have HK3 := Lib.hid (Blk.new w2 79 #[.string p.rel, .slice none 0 0])
  have hu3 : Up w2 (w2.alloc (.cells #[.string p.rel, .slice none 0 0] 79)) := Up.al1 _ _
  have hs3 : (w2.alloc (.cells #[.string p.rel, .slice none 0 0] 79)).heap.size = w2.heap.size + 1 := by simp
  have HU3 := Lib.hid hu3; have HS3 := Lib.hid hs3; clear hu3 hs3
  generalize (w2.alloc (.cells #[.string p.rel, .slice none 0 0] 79)) = W3 at *
  go_loopw [7] (fun i wr => ∃ (k : Nat) (ov : Value), k ≤ p.args.length ∧ i = .int .i64 k ∧ Up w2 wr ∧ w2.heap.size < wr.heap.size ∧ Hid (Blk wr w2.heap.size 79 #[.string p.rel, ov]) ∧ Hid (TO 9 wr (w2.heap.size + 1) wr.heap.size ov ((p.args.take k).map (valS y))) ∧ Hid ((p.args.take k).all (valOk y) = true)) (fun i _ => p.args.length - (intOf i).toNat)
  case atStart => exact ⟨0, _, Nat.zero_le _, rfl, HU3.out, by have := HS3.out; omega, HK3.out, TO.nil_ _ _ _ _, rfl⟩
  case round =>
    clear HK3 HU3 HS3
    obtain ⟨k, ov, hk, rfl, hb, hgs, HK, HTO, HA⟩ := hrel
    have k1 := (KP1.out.up hb).cell1
    by_cases hlt : k < p.args.length
    · obtain ⟨b, off, rfl, -, -, c0⟩ := (HPT1.out.up hb).1.at hlt
      have i1 : (0 : Int) ≤ (k : Int) := by omega
      have i2 : (k : Int) < (p.args.length : Int) := by omega
      have hsp := fsz_arg' zp k hlt
      cases hv : valOk y p.args[k]
      · have HE := Lib.hid (insV_3 hlt hv)
        go_wp2_with fail
        clear k1 c0
        refine (cValueOfS (HY1.out.up hb) hsp).mono ?_
        rintro e w5 ⟨rfl, b5⟩
        rw [hv]
        have HB5 := Lib.hid (HB1.out.tr (hb.tr b5))
        have KR5 := Lib.hid (KR1.out.up (hb.tr b5))
        clear b5 hb
        have r0 := KR5.out.cell0; have r1 := KR5.out.cell1; have fr0 := KR5.out.frozen 0; have fr1 := KR5.out.frozen 1
        go_wp2
        clear r0 r1 fr0 fr1
        have hK : Blk ((w5.setCell ⟨w.heap.size + 1, 0, none⟩ (.string ⟨#[]⟩)).setCell ⟨w.heap.size + 1, 1, none⟩ (.slice none 0 0)) (w.heap.size + 1) 79 #[.string ⟨#[]⟩, .slice none 0 0] := by
          have := (KR5.out.set_ 0 (.string ⟨#[]⟩)).set_ 1 (.slice none 0 0)
          simpa using this
        have hB : Up w ((w5.setCell ⟨w.heap.size + 1, 0, none⟩ (.string ⟨#[]⟩)).setCell ⟨w.heap.size + 1, 1, none⟩ (.slice none 0 0)) := ((HB5.out.setCell (p := ⟨w.heap.size + 1, 0, none⟩) (by simp) _).setCell (p := ⟨w.heap.size + 1, 1, none⟩) (by simp) _)
        generalize ((w5.setCell ⟨w.heap.size + 1, 0, none⟩ (.string ⟨#[]⟩)).setCell ⟨w.heap.size + 1, 1, none⟩ (.slice none 0 0)) = W4 at *
        have e0 := hK.cell0; have e1 := hK.cell1
        refine bodyPost_ret (v := .tuple #[.agg #[.string ⟨#[]⟩, .slice none 0 0], .bool false]) (by simp [results, Try.results47, go_sem, e0, e1]) rfl ?_
        exact ⟨_, ret_pb (by rw [HE.out]; rfl), FO.zero_ HE.out, hB⟩
      · have HA2 : Hid ((p.args.take (k + 1)).all (valOk y) = true) := by show _ = _; rw [List.take_succ_eq_append_getElem hlt, List.all_append, HA.out]; simp [hv]
        have HM : Hid ((p.args.take (k + 1)).map (valS y) = (p.args.take k).map (valS y) ++ [valS y p.args[k]]) := map_take_succ hlt
        have hl : ((p.args.take k).map (valS y)).length ≤ 3 := by simp; omega
        have hl6 : ((p.args.take (k + 1)).map (valS y)).length = k + 1 := by simp; omega
        go_wp2_with fail
        clear k1 c0
        refine (cValueOfS (HY1.out.up hb) hsp).mono ?_
        rintro e w5 ⟨rfl, b5⟩
        rw [hv]
        have KF5 := Lib.hid (HK.out.up b5)
        have HTO5 := Lib.hid (show Ob (TO 9) w5 (w2.heap.size + 1) wr.heap.size ov _ from (show Ob (TO 9) wr (w2.heap.size + 1) wr.heap.size ov _ from ⟨HTO.out, Nat.le_refl _⟩).up b5)
        have HB5 := Lib.hid (hb.tr b5)
        have h5s : wr.heap.size ≤ w5.heap.size := b5.size
        clear b5 hb HK HTO
        have k0 := KF5.out.cell0; have k1 := KF5.out.cell1; have f0 := KF5.out.frozen 0; have f1 := KF5.out.frozen 1
        have HN := Lib.hid (news1 (Blk.new w5 9 #[.string (valS y p.args[k])]))
        have hba : w2.heap.size + 1 ≤ (w5.alloc (.cells #[.string (valS y p.args[k])] 9)).heap.size := by simp; omega
        go_wp2_with (at_builtin; refine wpList_append_own _ rfl _ _ 22 rfl (w2.heap.size + 1) 9 i0 _ 1 16 Try.underlying22 hi0 hz0 hz1 hz2 rfl (by decide) ov ((p.args.take k).map (valS y)).length (((p.args.take k).map (valS y)).map Value.string) rfl (HTO5.out.1.1.alloc _) ⟨w5.heap.size, 0, none⟩ 1 1 [.string (valS y p.args[k])] rfl rfl HN.out (one1 rfl) (by unfold maxLen; omega) (by omega) hba ?_; intro v6 w6 hown' hgrow _; have hne : ov.ownBlock ≠ some w2.heap.size := (fun h => by have := (HTO5.out.1.1.lt _ h).1; omega); have KF6 : Blk w6 w2.heap.size 79 #[.string p.rel, ov] := ((hgrow.block w2.heap.size (KF5.out.alloc (.cells #[.string (valS y p.args[k])] 9)).lt (fun h => hne h.symm)).trans (KF5.out.alloc (.cells #[.string (valS y p.args[k])] 9))); clear k0 k1 f0 f1; have k0 := KF6.cell0; have k1 := KF6.cell1; have f0 := KF6.frozen 0; have f1 := KF6.frozen 1; have HKF6 := Lib.hid KF6; have HTO6 : Hid (TO 9 w6 (w2.heap.size + 1) w6.heap.size v6 ((p.args.take (k + 1)).map (valS y))) := (by show TO _ _ _ _ _ _; rw [HM.out]; exact TO.snoc hown'); obtain ⟨a6, c6, e6⟩ := HTO6.out.tx.form; rw [hl6] at e6; subst e6; have HB6 : Hid (Up w2 w6) := (HB5.out.al _).grown hgrow (fun g hg => by have := (HTO5.out.1.1.lt g hg).1; omega); have hs6 : w5.heap.size + 1 ≤ w6.heap.size := (by have := hgrow.size; simpa using this); clear hown' hgrow KF6 hne)
        clear k0 k1 f0 f1
        have hK7 : Blk (w6.setCell ⟨w2.heap.size, 1, none⟩ (.slice a6 (k + 1) c6)) w2.heap.size 79 #[.string p.rel, (.slice a6 (k + 1) c6)] := by have := HKF6.out.set_ 1 (.slice a6 (k + 1) c6); simpa using this
        have hB7 : Up w2 (w6.setCell ⟨w2.heap.size, 1, none⟩ (.slice a6 (k + 1) c6)) := HB6.out.setCell (p := ⟨w2.heap.size, 1, none⟩) (Nat.le_refl _) _
        have hz7 : w6.heap.size = (w6.setCell ⟨w2.heap.size, 1, none⟩ (.slice a6 (k + 1) c6)).heap.size := by simp [World.setCell]
        have hT7 := (HTO6.out.keep ((Stays.refl w6 (w2.heap.size + 1) w6.heap.size).setCell (p := ⟨w2.heap.size, 1, none⟩) (.inl (by simp)) (.slice a6 (k + 1) c6))).mono (Nat.le_refl _) (Nat.le_of_eq hz7)
        exact ⟨⟨k+1, (.slice a6 (k + 1) c6), by omega, by go_num, hB7, by omega, hK7, hT7, HA2.out⟩, by simp [intOf]; omega⟩
    · have HE : Hid (insV p y = some ⟨p.rel, (p.args.take k).map (valS y)⟩) := by
        have h := HA.out
        rw [List.take_of_length_le (by omega)] at h ⊢
        exact insV_0 H1.out H2.out h
      have KR5 := Lib.hid (KR1.out.up hb)
      have HB5 := Lib.hid (HB1.out.tr hb)
      obtain ⟨oa, oc, e6⟩ := HTO.out.tx.form
      have hl6 : ((p.args.take k).map (valS y)).length = k := by simp; omega
      rw [hl6] at e6
      subst e6
      clear hl6
      replace HTO := Lib.hid (HTO.out.mono (show w.heap.size + 2 ≤ w2.heap.size + 1 by omega) (Nat.le_refl _))
      have g0 := HK.out.cell0; have g1 := HK.out.cell1
      have r0 := KR5.out.cell0; have r1 := KR5.out.cell1; have fr0 := KR5.out.frozen 0; have fr1 := KR5.out.frozen 1
      go_wp2
      clear r0 r1 fr0 fr1 g0 g1 k1
      have hK : Blk ((wr.setCell ⟨w.heap.size + 1, 0, none⟩ (.string p.rel)).setCell ⟨w.heap.size + 1, 1, none⟩ (.slice oa k oc)) (w.heap.size + 1) 79 #[.string p.rel, .slice oa k oc] := by
        have := (KR5.out.set_ 0 (.string p.rel)).set_ 1 (.slice oa k oc)
        simpa using this
      have hB : Up w ((wr.setCell ⟨w.heap.size + 1, 0, none⟩ (.string p.rel)).setCell ⟨w.heap.size + 1, 1, none⟩ (.slice oa k oc)) := ((HB5.out.setCell (p := ⟨w.heap.size + 1, 0, none⟩) (by simp) _).setCell (p := ⟨w.heap.size + 1, 1, none⟩) (by simp) _)
      have hT := (HTO.out.keep (((Stays.refl wr (w.heap.size + 2) wr.heap.size).setCell (p := ⟨w.heap.size + 1, 0, none⟩) (.inl (by simp)) (.string p.rel)).setCell (p := ⟨w.heap.size + 1, 1, none⟩) (.inl (by simp)) (.slice oa k oc))).mono (show w.heap.size ≤ w.heap.size + 2 by omega) (Nat.le_of_eq (show wr.heap.size = ((wr.setCell ⟨w.heap.size + 1, 0, none⟩ (.string p.rel)).setCell ⟨w.heap.size + 1, 1, none⟩ (.slice oa k oc)).heap.size by simp [World.setCell]))
      generalize ((wr.setCell ⟨w.heap.size + 1, 0, none⟩ (.string p.rel)).setCell ⟨w.heap.size + 1, 1, none⟩ (.slice oa k oc)) = W4 at *
      have e0 := hK.cell0; have e1 := hK.cell1
      refine bodyPost_ret (v := .tuple #[.agg #[.string p.rel, .slice oa k oc], .bool true]) (by simp [results, Try.results47, go_sem, e0, e1]) rfl ?_
      exact ⟨_, ret_pb (by rw [HE.out]; rfl), by rw [HE.out]; exact ⟨⟨_, rfl, hT⟩, Nat.le_refl _⟩, hB⟩
end Go.Proofs.Ytojgkodffmdnpaa
