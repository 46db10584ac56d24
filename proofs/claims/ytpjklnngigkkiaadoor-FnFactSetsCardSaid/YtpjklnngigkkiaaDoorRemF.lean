/- RemoveFact, the program's, as a plain function of the list and the fact; wherever the lengths can be counted. -/
import Derived.Test.YtpjklnngigkkiaaDoorAddF
namespace Go.Proofs.YtpjklnngigkkiaaDoor
open Go.RowKit
attribute [local go_sem ↓] Go.wp_at_zero Go.wp_at_succ
set_option linter.unusedVariables false
set_option linter.unusedSimpArgs false
set_option maxHeartbeats 4000000 in
set_option maxRecDepth 100000 in
theorem cRemFact {v u : Value} {x : List FactV} {f : FactV} {lo hi lo' hi' : Nat} {w : World} (hT : Tabs w) (h : Ob SF w lo hi v x) (h' : Ob AF w lo' hi' u f) (hz : fssz x ≤ 1048576) (hzf : fsz f ≤ 1048576) :
    Calls Tryd.prog 46 #[v, u] w fun e w' => ∃ v', e = .returned (.tuple #[v', .bool (remOk x f)]) ∧ Ob (SO 9 32) w' w.heap.size w'.heap.size v' (remV x f) ∧ Up w w' := by
  obtain ⟨a, cap, rfl⟩ := h.1.form
  obtain ⟨fa, fc, rfl⟩ := h'.1.form
  have hlen : x.length ≤ 1048576 := by unfold fssz at hz; omega
  have hb0 : Up w (w.alloc (.cells #[.string f.rel, .slice fa f.args.length fc] 32)) := Up.al1 _ _
  have HV := Lib.hid (h.up hb0)
  have HF := Lib.hid (h'.up hb0)
  have HT := Lib.hid (hT.up hb0)
  have KP := Lib.hid (Blk.new w 32 #[.string f.rel, .slice fa f.args.length fc])
  have HB := Lib.hid hb0
  clear h h' hb0 hT
  go_enter Tryd.func46, Tryd.ntmps46
  go_wp2_with fail
  have hw0 : w.heap.size ≤ (w.alloc (.cells #[.string f.rel, .slice fa f.args.length fc] 32)).heap.size := HB.out.size
  generalize (w.alloc (.cells #[.string f.rel, .slice fa f.args.length fc] 32)) = W at *
  refine (cFindFact HV.out HF.out).mono ?_
  rintro e w1 ⟨rfl, b1⟩
  go_wp2_with fail
  refine (cAreFacts (HT.out.up b1) (HV.out.up b1) hz).mono ?_
  rintro e w3 ⟨rfl, b3⟩
  have b13 := b1.tr b3
  clear b1 b3
  cases hA : areFB x
  · have HE := Lib.hid (remOk_a (f := f) hA)
    clear hA
    go_wp2_with fail
    refine (cCopyFs (HV.out.up b13) hz).mono ?_
    rintro e w9 ⟨v9, rfl, ho, b9⟩
    have hs9 := (b13).size
    have HS : Hid (SO 9 32 w9 w.heap.size w9.heap.size v9 (remV x f)) := by show SO _ _ _ _ _ _ _; rw [remV_f HE.out]; exact ho.1.mono9 (by omega) (Nat.le_refl _)
    have HU := Lib.hid (HB.out.tr ((b13).tr b9))
    clear ho b9 hs9 
    go_wp2
    go_ret2
    exact ⟨_, ret_pb HE.out.symm, ⟨HS.out, Nat.le_refl _⟩, HU.out⟩
  · by_cases hC : findB x f < 0
    · have HE := Lib.hid (remOk_c (x := x) (f := f) hC)
      have hd : decide (findB x f < 0) = true := decide_eq_true hC
      clear hA
      go_wp2_with fail
      refine (cCopyFs (HV.out.up b13) hz).mono ?_
      rintro e w9 ⟨v9, rfl, ho, b9⟩
      have hs9 := (b13).size
      have HS : Hid (SO 9 32 w9 w.heap.size w9.heap.size v9 (remV x f)) := by show SO _ _ _ _ _ _ _; rw [remV_f HE.out]; exact ho.1.mono9 (by omega) (Nat.le_refl _)
      have HU := Lib.hid (HB.out.tr ((b13).tr b9))
      clear ho b9 hs9 
      go_wp2
      go_ret2
      exact ⟨_, ret_pb HE.out.symm, ⟨HS.out, Nat.le_refl _⟩, HU.out⟩
    · have HE := Lib.hid (remOk_t (f := f) hA (by omega))
      have hd : decide (findB x f < 0) = false := decide_eq_false hC
      obtain ⟨k, hk⟩ : ∃ k : Nat, findB x f = (k : Int) := ⟨(findB x f).toNat, by omega⟩
      obtain ⟨hkl, hcut⟩ := findB_cut hk ((areFB_iff x).1 hA).2.2
      have HC := Lib.hid hcut
      have hln := areFB_len hA
      rw [hk] at hd ⊢
      clear hA hC hcut hk
      have hp : 0 < x.length := by omega
      obtain ⟨b, off, rfl⟩ : ∃ b off, a = some ⟨b, off, none⟩ := by obtain ⟨b, off, -, -, e9, -⟩ := SF.at HV.out.1 hp; exact ⟨b, off, e9⟩
      have hcap : x.length ≤ cap ∧ cap ≤ maxLen := by obtain ⟨a9, c9, e9, l1, l2, -⟩ := HV.out.1; injection e9 with _ _ e9; subst e9; exact ⟨l1, l2⟩
      unfold maxLen at hcap
      obtain ⟨hcap1, hcap2⟩ := hcap
      have HA : Hid (Ob SF w3 lo hi (.slice (some ⟨b, off, none⟩) k cap) (x.take k)) := ⟨(HV.out.up b13).1.take_ (by omega), (HV.out.up b13).2⟩
      have HD : Hid (Ob SF w3 lo hi (.slice (if cap = k + 1 then some ⟨b, off, none⟩ else some ⟨b, off + (k + 1) * 2, none⟩) (x.length - (k + 1)) (cap - (k + 1))) (x.drop (k + 1))) := by
        refine ⟨?_, (HV.out.up b13).2⟩
        by_cases hc : cap = k + 1
        · exact ⟨_, cap - (k + 1), by rw [List.length_drop], by rw [List.length_drop]; omega, by unfold maxLen; omega, fun hp => absurd hp (by rw [List.length_drop]; omega)⟩
        · rw [if_neg hc]; exact (HV.out.up b13).1.drop_ (by omega)
      have zA : fssz (x.take k) ≤ 1048576 := Nat.le_trans (fssz_take x k) hz
      have zD : fssz (x.drop (k + 1)) ≤ 1048576 := Nat.le_trans (fssz_drop x (k + 1)) hz
      have lA : (x.take k).length = k := by simp; omega
      have lD : (x.drop (k + 1)).length = x.length - (k + 1) := by simp
      have i1 : (0 : Int) ≤ (k : Int) := by omega
      have i2 : (k : Int) ≤ (cap : Int) := by omega
      have i3 : (0 : Int) ≤ (k : Int) + 1 := by omega
      have i4 : (k : Int) + 1 ≤ (x.length : Int) := by omega
      have i5 : (k : Int) + 1 ≤ (cap : Int) := by omega
      have i6 : (x.length : Int) ≤ (cap : Int) := by omega
      have hn1 : ((k : Int) + 1).toNat = k + 1 := by omega
      have HU3 := Lib.hid (HB.out.tr b13)
      have hw3 : w.heap.size ≤ w3.heap.size := HU3.out.size
      obtain ⟨j0, hj0, hz0, hz1, hz2⟩ := info_parts Tryd.infoFact
      go_upto_region 4 with fail
      clear hd
      have hw9 : IntKind.i64.wrap ((k : Int) + 1) = (k : Int) + 1 := IntWalk.i64_in _ (by omega)
      have hw8 : IntKind.i64.wrap (k : Int) = (k : Int) := IntWalk.i64_in _ (by clear hw9; omega)
      refine wp_region_held_drew (S := (fun w' => Up w3 w')) (by kernel_rfl) (by (try dsimp only); exact (Up.rf _).dr) (fun hHeld => ?_)
      refine takeW (i := 0) (v := ?_) rfl (by kernel_rfl) (by kernel_rfl) (by kernel_rfl) (fun _ _ _ h => h) (by rfl) (by assumption) ?_ ?_
      rotate_left
      · (intro w9 hSw; (try dsimp only at hSw); go_simp; (try with_reducible rfl))
      simp only [Act.put, List.setIfInBounds_toArray, List.set_cons_zero, List.set_cons_succ]
      refine takeW (i := 1) (v := ?_) rfl (by kernel_rfl) (by kernel_rfl) (by kernel_rfl) (fun _ _ _ h => h) (by rfl) (by assumption) ?_ ?_
      rotate_left
      · (intro w9 hSw; (try dsimp only at hSw); go_simp; (try with_reducible rfl))
      simp only [Act.put, List.setIfInBounds_toArray, List.set_cons_zero, List.set_cons_succ]
      refine takeW (i := 2) (v := ?_) rfl (by kernel_rfl) (by kernel_rfl) (by kernel_rfl) (fun _ _ _ h => h) (by rfl) (by assumption) ?_ ?_
      rotate_left
      · (intro w9 hSw; (try dsimp only at hSw); go_simp; (try with_reducible rfl))
      simp only [Act.put, List.setIfInBounds_toArray, List.set_cons_zero, List.set_cons_succ]
      refine takeW (i := 4) (v := ?_) rfl (by kernel_rfl) (by kernel_rfl) (by kernel_rfl) (fun _ _ _ h => h) (by rfl) (by assumption) ?_ ?_
      rotate_left
      · (intro w9 hSw; (try dsimp only at hSw); go_simp; (try with_reducible rfl))
      simp only [Act.put, List.setIfInBounds_toArray, List.set_cons_zero, List.set_cons_succ]
      refine takeW (i := 5) (v := ?_) rfl (by kernel_rfl) (by kernel_rfl) (by kernel_rfl) (fun _ _ _ h => h) (by rfl) (by assumption) ?_ ?_
      rotate_left
      · (intro w9 hSw; (try dsimp only at hSw); go_simp; (try with_reducible rfl))
      simp only [Act.put, List.setIfInBounds_toArray, List.set_cons_zero, List.set_cons_succ]
      refine takeW (i := 6) (v := ?_) rfl (by kernel_rfl) (by kernel_rfl) (by kernel_rfl) (fun _ _ _ h => h) (by rfl) (by assumption) ?_ ?_
      rotate_left
      · (intro w9 hSw; (try dsimp only at hSw); go_simp; (try with_reducible rfl))
      simp only [Act.put, List.setIfInBounds_toArray, List.set_cons_zero, List.set_cons_succ]
      refine takeW (i := 7) (v := ?_) rfl (by kernel_rfl) (by kernel_rfl) (by kernel_rfl) (fun _ _ _ h => h) (by rfl) (by assumption) ?_ ?_
      rotate_left
      · (intro w9 hSw; (try dsimp only at hSw); go_simp; (try with_reducible rfl))
      simp only [Act.put, List.setIfInBounds_toArray, List.set_cons_zero, List.set_cons_succ]
      generalize (if cap = k + 1 then (some ⟨b, off, none⟩ : Option Addr) else some ⟨b, off + (k + 1) * 2, none⟩) = ad at HD ⊢
      refine comeC (i := 3) rfl (by kernel_rfl) (by rfl) (fun K hK => ?_)
      go_simp
      go_at_call 58; refine (cCopyFs (HA.out.up hHeld) zA).mono ?_; rintro e w4 ⟨v4, rfl, ho4, b4⟩; have b34 := hHeld.tr b4; have h4s := hHeld.size; have HO4 : Hid (SO 9 32 w4 w3.heap.size w4.heap.size v4 (x.take k)) := ho4.1.mono9 h4s (Nat.le_refl _); clear b4 hHeld ho4 h4s
      go_wp2_with fail
      refine hK.out _ _ (by (try dsimp only); exact b34) (fun hHeld => ?_)
      clear hK K
      try simp only [Act.put, List.setIfInBounds_toArray, List.set_cons_zero, List.set_cons_succ]
      refine comeC (i := 8) rfl (by kernel_rfl) (by rfl) (fun K hK => ?_)
      go_simp
      go_at_call 58; refine (cCopyFs (HD.out.up hHeld) zD).mono ?_; rintro e w5 ⟨v5, rfl, ho5, b5⟩; have b35 := hHeld.tr b5; have HO5 := Lib.hid ho5.1; have HB5 := Lib.hid b5; clear b5 hHeld ho5
      go_wp2_with fail
      refine hK.out _ _ (by (try dsimp only); exact b35) (fun hHeld => ?_)
      clear hK K
      try simp only [Act.put, List.setIfInBounds_toArray, List.set_cons_zero, List.set_cons_succ]
      clear hw9 hw8
      obtain ⟨vs, hrA, hownA⟩ := HO4.out.rows
      obtain ⟨us, hrB, hownB⟩ := HO5.out.rows
      have h45 := HB5.out.size
      have h34 := b34.size
      have hownA5 := Lib.hid (owns_below hownA HB5.out)
      have HRA := Lib.hid (hrA.keep (Stays.of_below HB5.out (Nat.le_refl _)))
      have HRB := Lib.hid hrB
      have hcut2 := HC.out
      by_cases hm : x.length - (k + 1) = 0
      · have hD0 : x.drop (k + 1) = [] := List.eq_nil_of_length_eq_zero (by omega)
        obtain ⟨a5, c5, e5⟩ := HO5.out.sf.form
        rw [hD0, List.length_nil] at e5
        subst e5
        have HS5 : Hid (SO 9 32 w5 w.heap.size w5.heap.size v4 (remV x f)) := by
          show SO _ _ _ _ _ _ _
          rw [remV_t HE.out, ← hcut2, hD0, List.append_nil]
          exact (HO4.out.up9 HB5.out).mono9 hw3 (Nat.le_refl _)
        refine comeC (i := 9) rfl (by kernel_rfl) (by rfl) (fun K hK => ?_)
        unfold Oper.wp
        rw [yield_app_zero (.tmp 22) (.tmp 27) 28 rfl w3.heap.size 32 j0 2 Tryd.underlying28 hj0 v4 (x.take k).length (flatF (x.take k) vs) w5 rfl hownA5.out a5 c5 rfl]
        refine hK.out _ _ (by (try dsimp only); exact b35) (fun hHeld => ?_)
        clear hK K
        try simp only [Act.put, List.setIfInBounds_toArray, List.set_cons_zero, List.set_cons_succ]
        refine takeW (i := 10) (v := ?_) rfl (by kernel_rfl) (by kernel_rfl) (by kernel_rfl) (fun _ _ _ h => h) (by rfl) (by assumption) ?_ ?_
        rotate_left
        · (intro w9 hSw; (try dsimp only at hSw); go_simp; (try with_reducible rfl))
        simp only [Act.put, List.setIfInBounds_toArray, List.set_cons_zero, List.set_cons_succ]
        refine takeW (i := 11) (v := ?_) rfl (by kernel_rfl) (by kernel_rfl) (by kernel_rfl) (fun _ _ _ h => h) (by rfl) (by assumption) ?_ ?_
        rotate_left
        · (intro w9 hSw; (try dsimp only at hSw); go_simp; (try with_reducible rfl))
        simp only [Act.put, List.setIfInBounds_toArray, List.set_cons_zero, List.set_cons_succ]
        refine wpAnyH_done (by kernel_rfl) ?_ _
        go_wp2
        go_ret2
        exact ⟨_, ret_pb HE.out.symm, ⟨HS5.out, Nat.le_refl _⟩, HU3.out.tr b35⟩
      · obtain ⟨g5, c5, e5⟩ : ∃ g c, v5 = .slice (some ⟨g, 0, none⟩) (x.drop (k + 1)).length c := by
          rcases hownB.2 with ⟨-, h0⟩ | ⟨g, c, cur, e9, -⟩
          · omega
          · exact ⟨g, c, e9⟩
        subst e5
        have hNB := owns_news hownB
        have hfl := flatF_len (x.drop (k + 1)) us hrB.1
        have hOne : ∀ u ∈ flatF (x.drop (k + 1)) us, u.oneCell' = true := hrB.one
        refine comeC (i := 9) rfl (by kernel_rfl) (by rfl) (fun K hK => ?_)
        refine wp_append_lies _ (.tmp 22) (.tmp 27) 28 rfl w3.heap.size 32 j0 _ 2 40 Tryd.underlying28 hj0 hz0 hz1 hz2 rfl (by decide) v4 (x.take k).length (flatF (x.take k) vs) rfl hownA5.out ⟨g5, 0, none⟩ (x.drop (k + 1)).length c5 (flatF (x.drop (k + 1)) us) rfl hfl hNB hOne (by omega) (by unfold maxLen; omega) (by omega) (by omega) w5.heap.size rfl ?_
        intro g6 c6 w6 hown' hgrow hat hltg
        have HS6 : Hid (SO 9 32 w6 w.heap.size w6.heap.size (.slice (some ⟨g6, 0, none⟩) (k + (x.length - (k + 1))) c6) (remV x f)) := by
          show SO _ _ _ _ _ _ _
          rw [remV_t HE.out, ← hcut2]
          have h := (SO.app2 (by decide) HRA.out HRB.out h34 h45 hownA5.out hown' hgrow).mono9 hw3 (Nat.le_refl _)
          rw [lA, lD] at h
          exact h
        have b36 : Up w3 w6 := b35.grown hgrow (fun g hg => (hownA5.out.lt g hg).1)
        refine hK.out _ _ (by (try dsimp only); exact b36) (fun hHeld => ?_)
        clear hK K
        try simp only [Act.put, List.setIfInBounds_toArray, List.set_cons_zero, List.set_cons_succ]
        refine takeW (i := 10) (v := ?_) rfl (by kernel_rfl) (by kernel_rfl) (by kernel_rfl) (fun _ _ _ h => h) (by rfl) (by assumption) ?_ ?_
        rotate_left
        · (intro w9 hSw; (try dsimp only at hSw); go_simp; (try with_reducible rfl))
        simp only [Act.put, List.setIfInBounds_toArray, List.set_cons_zero, List.set_cons_succ]
        refine takeW (i := 11) (v := ?_) rfl (by kernel_rfl) (by kernel_rfl) (by kernel_rfl) (fun _ _ _ h => h) (by rfl) (by assumption) ?_ ?_
        rotate_left
        · (intro w9 hSw; (try dsimp only at hSw); go_simp; (try with_reducible rfl))
        simp only [Act.put, List.setIfInBounds_toArray, List.set_cons_zero, List.set_cons_succ]
        refine wpAnyH_done (by kernel_rfl) ?_ _
        go_wp2
        go_ret2
        exact ⟨_, ret_pb HE.out.symm, ⟨HS6.out, Nat.le_refl _⟩, HU3.out.tr b36⟩
end Go.Proofs.YtpjklnngigkkiaaDoor
