/- The copies of lists of texts, of pairs and of facts, the program's and the reference's; wherever the lengths can be counted. -/
import Derived.Test.YtojgkodffmdnpaaApp
namespace Go.Proofs.Ytojgkodffmdnpaa
open Go.RowKit
attribute [local go_sem ↓] Go.wp_at_zero Go.wp_at_succ
set_option linter.unusedVariables false
set_option maxHeartbeats 400000 in
theorem cCopyT {v : Value} {x : List ByteArray} {lo hi : Nat} {w : World} (h : Ob TX w lo hi v x) (hz : x.length ≤ 4194304) :
    Calls Try.prog 128 #[v] w fun e w' => ∃ v', e = .returned v' ∧ Ob (TO 9) w' w.heap.size w'.heap.size v' x ∧ Up w w' := by
  obtain ⟨a, cap, rfl⟩ := h.1.form
  obtain ⟨i0, hi0, hz0, hz1, hz2⟩ := info_parts Try.infoStr
  have HV := Lib.hid h
  clear h
  cases a with
  | none =>
    obtain rfl : x = [] := TX.none_ HV.out.1
    clear HV
    go_enter Try.func128, Try.ntmps128
    go_wp2_with (at_builtin; refine wpList_app_none rfl _ _ 22 rfl w.heap.size 9 i0 1 Try.underlying22 hi0 (.slice none 0 0) 0 [] rfl (World.ownsRow_nil _ _ _ _) cap rfl ?_)
    go_ret
    exact ⟨_, rfl, ⟨TO.nil_ _ _ _ _, Nat.le_refl _⟩, Up.rf w⟩
  | some ad =>
    have hn := Lib.hid (TX.news HV.out.1)
    go_enter Try.func128, Try.ntmps128
    go_wp2_with (at_builtin; refine wpList_append_own _ rfl _ _ 22 rfl w.heap.size 9 i0 _ 1 16 Try.underlying22 hi0 hz0 hz1 hz2 rfl (by decide) (.slice none 0 0) 0 [] rfl (World.ownsRow_nil _ _ _ _) ad x.length cap (x.map Value.string) rfl (by simp) hn.out (one_strs x) (by unfold maxLen; omega) (by omega) (Nat.le_refl _) ?_; intro v' w1 hown hgrow _)
    have HU : Hid (Up w w1) := (Up.rf w).grown hgrow (fun g hg => by simp [Value.ownBlock] at hg)
    have HO : Hid (TO 9 w1 w.heap.size w1.heap.size v' x) := TO.app (L := []) (by simpa [flatP] using hown)
    clear hown hgrow
    go_wp2
    go_ret
    exact ⟨_, rfl, ⟨HO.out, Nat.le_refl _⟩, HU.out⟩
set_option maxHeartbeats 400000 in
theorem cCopyP {v : Value} {x : List (ByteArray × ByteArray)} {lo hi : Nat} {w : World} (h : Ob SP w lo hi v x) (hz : x.length ≤ 4194304) :
    Calls Try.prog 108 #[v] w fun e w' => ∃ v', e = .returned v' ∧ Ob (PO 111) w' w.heap.size w'.heap.size v' x ∧ Up w w' := by
  obtain ⟨a, cap, rfl⟩ := h.1.form
  obtain ⟨i0, hi0, hz0, hz1, hz2⟩ := info_parts Try.infoPair
  have HV := Lib.hid h
  clear h
  cases a with
  | none =>
    obtain rfl : x = [] := SL.none_ HV.out.1
    clear HV
    go_enter Try.func108, Try.ntmps108
    go_wp2_with (at_builtin; refine wpList_app_none rfl _ _ 35 rfl w.heap.size 111 i0 2 Try.underlying35 hi0 (.slice none 0 0) 0 [] rfl (World.ownsRow_nil _ _ _ _) cap rfl ?_)
    go_ret
    exact ⟨_, rfl, ⟨PO.nil_ _ _ _ _, Nat.le_refl _⟩, Up.rf w⟩
  | some ad =>
    have hn := Lib.hid (SP.news HV.out.1)
    go_enter Try.func108, Try.ntmps108
    go_wp2_with (at_builtin; refine wpList_append_own _ rfl _ _ 35 rfl w.heap.size 111 i0 _ 2 32 Try.underlying35 hi0 hz0 hz1 hz2 rfl (by decide) (.slice none 0 0) 0 [] rfl (World.ownsRow_nil _ _ _ _) ad x.length cap (flatP x) rfl (flatP_len x) hn.out (one_flatP x) (by unfold maxLen; omega) (by omega) (Nat.le_refl _) ?_; intro v' w1 hown hgrow _)
    have HU : Hid (Up w w1) := (Up.rf w).grown hgrow (fun g hg => by simp [Value.ownBlock] at hg)
    have HO : Hid (PO 111 w1 w.heap.size w1.heap.size v' x) := PO.app (L := []) (by simpa [flatP] using hown)
    clear hown hgrow
    go_wp2
    go_ret
    exact ⟨_, rfl, ⟨HO.out, Nat.le_refl _⟩, HU.out⟩
set_option maxHeartbeats 400000 in
theorem cCopyTS {v : Value} {x : List ByteArray} {lo hi : Nat} {w : World} (h : Ob TX w lo hi v x) (hz : x.length ≤ 4194304) :
    Calls Try.prog 127 #[v] w fun e w' => ∃ v', e = .returned v' ∧ Ob (TO 9) w' w.heap.size w'.heap.size v' x ∧ Up w w' := by
  obtain ⟨a, cap, rfl⟩ := h.1.form
  obtain ⟨i0, hi0, hz0, hz1, hz2⟩ := info_parts Try.infoStr
  have HV := Lib.hid h
  clear h
  have HM : Hid ((w.alloc (.cells #[] 9)).ownsRow w.heap.size 9 1 (.slice (some ⟨w.heap.size, 0, none⟩) 0 0) 0 []) := World.ownsRow_made w #[] 0 (Nat.le_refl _) (by unfold maxLen; omega) (by rfl)
  cases a with
  | none =>
    obtain rfl : x = [] := TX.none_ HV.out.1
    clear HV
    go_enter Try.func127, Try.ntmps127
    go_wp2_with (at_builtin; refine wpList_app_none rfl _ _ 22 rfl w.heap.size 9 i0 1 Try.underlying22 hi0 (.slice (some ⟨w.heap.size, 0, none⟩) 0 0) 0 [] rfl HM.out cap rfl ?_)
    go_ret
    exact ⟨_, rfl, ⟨⟨HM.out, fun g hg => (HM.out.lt g hg).2⟩, Nat.le_refl _⟩, Up.al1 _ _⟩
  | some ad =>
    have hn := Lib.hid (TX.news (HV.out.up (Up.al1 w (.cells #[] 9))).1)
    go_enter Try.func127, Try.ntmps127
    go_wp2_with (at_builtin; refine wpList_append_own _ rfl _ _ 22 rfl w.heap.size 9 i0 _ 1 16 Try.underlying22 hi0 hz0 hz1 hz2 rfl (by decide) (.slice (some ⟨w.heap.size, 0, none⟩) 0 0) 0 [] rfl HM.out ad x.length cap (x.map Value.string) rfl (by simp) hn.out (one_strs x) (by unfold maxLen; omega) (by omega) (Up.al1 w _).size ?_; intro v' w1 hown hgrow _)
    have HU : Hid (Up w w1) := (Up.al1 w _).grown hgrow (fun g hg => by simp [Value.ownBlock] at hg; omega)
    have HO : Hid (TO 9 w1 w.heap.size w1.heap.size v' x) := TO.app (L := []) (by simpa [flatP] using hown)
    clear hown hgrow
    go_wp2
    go_ret
    exact ⟨_, rfl, ⟨HO.out, Nat.le_refl _⟩, HU.out⟩
set_option maxHeartbeats 400000 in
theorem cCopyPS {v : Value} {x : List (ByteArray × ByteArray)} {lo hi : Nat} {w : World} (h : Ob SP w lo hi v x) (hz : x.length ≤ 4194304) :
    Calls Try.prog 106 #[v] w fun e w' => ∃ v', e = .returned v' ∧ Ob (PO 111) w' w.heap.size w'.heap.size v' x ∧ Up w w' := by
  obtain ⟨a, cap, rfl⟩ := h.1.form
  obtain ⟨i0, hi0, hz0, hz1, hz2⟩ := info_parts Try.infoPair
  have HV := Lib.hid h
  clear h
  have HM : Hid ((w.alloc (.cells #[] 111)).ownsRow w.heap.size 111 2 (.slice (some ⟨w.heap.size, 0, none⟩) 0 0) 0 []) := World.ownsRow_made w #[] 0 (Nat.le_refl _) (by unfold maxLen; omega) (by rfl)
  cases a with
  | none =>
    obtain rfl : x = [] := SL.none_ HV.out.1
    clear HV
    go_enter Try.func106, Try.ntmps106
    go_wp2_with (at_builtin; refine wpList_app_none rfl _ _ 35 rfl w.heap.size 111 i0 2 Try.underlying35 hi0 (.slice (some ⟨w.heap.size, 0, none⟩) 0 0) 0 [] rfl HM.out cap rfl ?_)
    go_ret
    exact ⟨_, rfl, ⟨⟨HM.out, fun g hg => (HM.out.lt g hg).2⟩, Nat.le_refl _⟩, Up.al1 _ _⟩
  | some ad =>
    have hn := Lib.hid (SP.news (HV.out.up (Up.al1 w (.cells #[] 111))).1)
    go_enter Try.func106, Try.ntmps106
    go_wp2_with (at_builtin; refine wpList_append_own _ rfl _ _ 35 rfl w.heap.size 111 i0 _ 2 32 Try.underlying35 hi0 hz0 hz1 hz2 rfl (by decide) (.slice (some ⟨w.heap.size, 0, none⟩) 0 0) 0 [] rfl HM.out ad x.length cap (flatP x) rfl (flatP_len x) hn.out (one_flatP x) (by unfold maxLen; omega) (by omega) (Up.al1 w _).size ?_; intro v' w1 hown hgrow _)
    have HU : Hid (Up w w1) := (Up.al1 w _).grown hgrow (fun g hg => by simp [Value.ownBlock] at hg; omega)
    have HO : Hid (PO 111 w1 w.heap.size w1.heap.size v' x) := PO.app (L := []) (by simpa [flatP] using hown)
    clear hown hgrow
    go_wp2
    go_ret
    exact ⟨_, rfl, ⟨HO.out, Nat.le_refl _⟩, HU.out⟩
set_option maxHeartbeats 400000 in
theorem cCopyF {v : Value} {x : FactV} {lo hi : Nat} {w : World} (h : Ob AF w lo hi v x) (hz : x.args.length ≤ 4194304) :
    Calls Try.prog 113 #[v] w fun e w' => ∃ v', e = .returned v' ∧ Ob (FO 9) w' w.heap.size w'.heap.size v' x ∧ Up w w' := by
  obtain ⟨⟨_, rfl, av, rfl, ht⟩, hh⟩ := h
  have HT : Hid (Ob TX w lo hi av x.args) := ⟨ht, hh⟩
  clear ht hh
  go_enter Try.func113, Try.ntmps113
  go_wp2_with fail
  have K0 : Blk ((w.alloc (.cells #[.string x.rel, av] 79)).alloc (.cells #[.string ⟨#[]⟩, .slice none 0 0] 79)) w.heap.size 79 #[.string x.rel, av] := (Blk.new w 79 #[.string x.rel, av]).alloc _
  have K1 : Blk ((w.alloc (.cells #[.string x.rel, av] 79)).alloc (.cells #[.string ⟨#[]⟩, .slice none 0 0] 79)) (w.heap.size + 1) 79 #[.string ⟨#[]⟩, .slice none 0 0] := by
    have := Blk.new (w.alloc (.cells #[.string x.rel, av] 79)) 79 #[.string ⟨#[]⟩, .slice none 0 0]
    simpa using this
  have hb0 : Up w ((w.alloc (.cells #[.string x.rel, av] 79)).alloc (.cells #[.string ⟨#[]⟩, .slice none 0 0] 79)) := (Up.al1 _ _).al _
  have hs0 : ((w.alloc (.cells #[.string x.rel, av] 79)).alloc (.cells #[.string ⟨#[]⟩, .slice none 0 0] 79)).heap.size = w.heap.size + 2 := by simp
  generalize ((w.alloc (.cells #[.string x.rel, av] 79)).alloc (.cells #[.string ⟨#[]⟩, .slice none 0 0] 79)) = W at *
  have HB := Lib.hid hb0
  have HS := Lib.hid hs0
  have HK := Lib.hid K1
  have c0 := K0.cell0
  have c1 := K0.cell1
  have d0 := K1.cell0
  have d1 := K1.cell1
  have f0 := K1.frozen 0
  have f1 := K1.frozen 1
  clear hb0 hs0 K0 K1
  go_region_with (go_at_call 128; refine (cCopyT (HT.out.up (HB.out.tr (by first | exact (Up.rf _).dr | exact Up.rf _ | exact (Up.rf _).dr.dr))) hz).mono ?_; rintro e w1 ⟨u, rfl, ho, b1⟩; obtain ⟨a1, q1, rfl⟩ := ho.1.tx.form; have b2 : Up W w1 := (by first | exact (Up.rf W).dr.tr b1 | exact b1); have c0' := keepCell b2 c0; have c1' := keepCell b2 c1; have d0' := keepCell b2 d0; have d1' := keepCell b2 d1; have f0' := keepFr b2 d0 f0; have f1' := keepFr b2 d1 f1)
  all_goals
    have hK : Blk ((w1.setCell ⟨w.heap.size + 1, 0, none⟩ (.string x.rel)).setCell ⟨w.heap.size + 1, 1, none⟩ (.slice a1 x.args.length q1)) (w.heap.size + 1) 79 #[.string x.rel, .slice a1 x.args.length q1] := by
      have := ((HK.out.up b2).set_ 0 (.string x.rel)).set_ 1 (.slice a1 x.args.length q1)
      simpa using this
    have hs := HS.out
    have hS : W.heap.size ≤ w1.heap.size := b2.size
    have hz : ((w1.setCell ⟨w.heap.size + 1, 0, none⟩ (.string x.rel)).setCell ⟨w.heap.size + 1, 1, none⟩ (.slice a1 x.args.length q1)).heap.size = w1.heap.size := by simp [World.setCell]
    have hB : Up w ((w1.setCell ⟨w.heap.size + 1, 0, none⟩ (.string x.rel)).setCell ⟨w.heap.size + 1, 1, none⟩ (.slice a1 x.args.length q1)) :=
      (((HB.out.tr b2).setCell (p := ⟨w.heap.size + 1, 0, none⟩) (by simp) _).setCell (p := ⟨w.heap.size + 1, 1, none⟩) (by simp) _)
    have hV := (ho.1.keep (((Stays.refl w1 W.drew.heap.size w1.heap.size).setCell (p := ⟨w.heap.size + 1, 0, none⟩) (.inl (by show w.heap.size + 1 < W.heap.size; omega)) (.string x.rel)).setCell (p := ⟨w.heap.size + 1, 1, none⟩) (.inl (by show w.heap.size + 1 < W.heap.size; omega)) (.slice a1 x.args.length q1))).mono (show w.heap.size ≤ W.drew.heap.size by show w.heap.size ≤ W.heap.size; omega) (Nat.le_of_eq hz.symm)
    clear c0' c1' d0' d1' f0' f1' c0 c1 d0 d1 f0 f1 b1 b2 ho hz hS
    generalize ((w1.setCell ⟨w.heap.size + 1, 0, none⟩ (.string x.rel)).setCell ⟨w.heap.size + 1, 1, none⟩ (.slice a1 x.args.length q1)) = W4 at *
    have e0 := hK.cell0
    have e1 := hK.cell1
    go_wp2
    refine bodyPost_ret (v := .agg #[.string x.rel, .slice a1 x.args.length q1]) (by simp [results, Try.results113, go_sem, e0, e1]) rfl ?_
    exact ⟨_, rfl, ⟨⟨_, rfl, hV⟩, Nat.le_refl _⟩, hB⟩
set_option maxHeartbeats 400000 in
theorem cCopyFS {v : Value} {x : FactV} {lo hi : Nat} {w : World} (h : Ob AF w lo hi v x) (hz : x.args.length ≤ 4194304) :
    Calls Try.prog 112 #[v] w fun e w' => ∃ v', e = .returned v' ∧ Ob (FO 9) w' w.heap.size w'.heap.size v' x ∧ Up w w' := by
  obtain ⟨⟨_, rfl, av, rfl, ht⟩, hh⟩ := h
  have HT : Hid (Ob TX w lo hi av x.args) := ⟨ht, hh⟩
  clear ht hh
  go_enter Try.func112, Try.ntmps112
  go_wp2_with fail
  have K0 : Blk ((w.alloc (.cells #[.string x.rel, av] 79)).alloc (.cells #[.string ⟨#[]⟩, .slice none 0 0] 79)) w.heap.size 79 #[.string x.rel, av] := (Blk.new w 79 #[.string x.rel, av]).alloc _
  have K1 : Blk ((w.alloc (.cells #[.string x.rel, av] 79)).alloc (.cells #[.string ⟨#[]⟩, .slice none 0 0] 79)) (w.heap.size + 1) 79 #[.string ⟨#[]⟩, .slice none 0 0] := by
    have := Blk.new (w.alloc (.cells #[.string x.rel, av] 79)) 79 #[.string ⟨#[]⟩, .slice none 0 0]
    simpa using this
  have hb0 : Up w ((w.alloc (.cells #[.string x.rel, av] 79)).alloc (.cells #[.string ⟨#[]⟩, .slice none 0 0] 79)) := (Up.al1 _ _).al _
  have hs0 : ((w.alloc (.cells #[.string x.rel, av] 79)).alloc (.cells #[.string ⟨#[]⟩, .slice none 0 0] 79)).heap.size = w.heap.size + 2 := by simp
  generalize ((w.alloc (.cells #[.string x.rel, av] 79)).alloc (.cells #[.string ⟨#[]⟩, .slice none 0 0] 79)) = W at *
  have HB := Lib.hid hb0
  have HS := Lib.hid hs0
  have HK := Lib.hid K1
  have c0 := K0.cell0
  have c1 := K0.cell1
  have d0 := K1.cell0
  have d1 := K1.cell1
  have f0 := K1.frozen 0
  have f1 := K1.frozen 1
  clear hb0 hs0 K0 K1
  go_region_with (go_at_call 127; refine (cCopyTS (HT.out.up (HB.out.tr (by first | exact (Up.rf _).dr | exact Up.rf _ | exact (Up.rf _).dr.dr))) hz).mono ?_; rintro e w1 ⟨u, rfl, ho, b1⟩; obtain ⟨a1, q1, rfl⟩ := ho.1.tx.form; have b2 : Up W w1 := (by first | exact (Up.rf W).dr.tr b1 | exact b1); have c0' := keepCell b2 c0; have c1' := keepCell b2 c1; have d0' := keepCell b2 d0; have d1' := keepCell b2 d1; have f0' := keepFr b2 d0 f0; have f1' := keepFr b2 d1 f1)
  all_goals
    have hK : Blk ((w1.setCell ⟨w.heap.size + 1, 0, none⟩ (.string x.rel)).setCell ⟨w.heap.size + 1, 1, none⟩ (.slice a1 x.args.length q1)) (w.heap.size + 1) 79 #[.string x.rel, .slice a1 x.args.length q1] := by
      have := ((HK.out.up b2).set_ 0 (.string x.rel)).set_ 1 (.slice a1 x.args.length q1)
      simpa using this
    have hs := HS.out
    have hS : W.heap.size ≤ w1.heap.size := b2.size
    have hz : ((w1.setCell ⟨w.heap.size + 1, 0, none⟩ (.string x.rel)).setCell ⟨w.heap.size + 1, 1, none⟩ (.slice a1 x.args.length q1)).heap.size = w1.heap.size := by simp [World.setCell]
    have hB : Up w ((w1.setCell ⟨w.heap.size + 1, 0, none⟩ (.string x.rel)).setCell ⟨w.heap.size + 1, 1, none⟩ (.slice a1 x.args.length q1)) :=
      (((HB.out.tr b2).setCell (p := ⟨w.heap.size + 1, 0, none⟩) (by simp) _).setCell (p := ⟨w.heap.size + 1, 1, none⟩) (by simp) _)
    have hV := (ho.1.keep (((Stays.refl w1 W.drew.heap.size w1.heap.size).setCell (p := ⟨w.heap.size + 1, 0, none⟩) (.inl (by show w.heap.size + 1 < W.heap.size; omega)) (.string x.rel)).setCell (p := ⟨w.heap.size + 1, 1, none⟩) (.inl (by show w.heap.size + 1 < W.heap.size; omega)) (.slice a1 x.args.length q1))).mono (show w.heap.size ≤ W.drew.heap.size by show w.heap.size ≤ W.heap.size; omega) (Nat.le_of_eq hz.symm)
    clear c0' c1' d0' d1' f0' f1' c0 c1 d0 d1 f0 f1 b1 b2 ho hz hS
    generalize ((w1.setCell ⟨w.heap.size + 1, 0, none⟩ (.string x.rel)).setCell ⟨w.heap.size + 1, 1, none⟩ (.slice a1 x.args.length q1)) = W4 at *
    have e0 := hK.cell0
    have e1 := hK.cell1
    go_wp2
    refine bodyPost_ret (v := .agg #[.string x.rel, .slice a1 x.args.length q1]) (by simp [results, Try.results112, go_sem, e0, e1]) rfl ?_
    exact ⟨_, rfl, ⟨⟨_, rfl, hV⟩, Nat.le_refl _⟩, hB⟩
end Go.Proofs.Ytojgkodffmdnpaa
