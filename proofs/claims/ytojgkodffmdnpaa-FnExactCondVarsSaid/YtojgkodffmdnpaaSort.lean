/- SortedTexts of the program: the library's sort, then each text once; wherever the lengths can be counted. -/
import Derived.Sort.OwnSorted
import Derived.Test.YtojgkodffmdnpaaShelfS
import Derived.Test.YtojgkodffmdnpaaPut
namespace Go.Proofs.Ytojgkodffmdnpaa
open Go.RowKit Go.Sort
attribute [local go_sem ↓] Go.wp_at_zero Go.wp_at_succ
set_option linter.unusedVariables false
theorem enc_data (x : List ByteArray) : (x.map (·.data.toList)).map encStr = x.map Value.string := by
  rw [List.map_map]
  apply List.map_congr_left
  intro s _
  simp [encStr]
theorem enc_sort (x : List ByteArray) : (((x.map (·.data.toList)).mergeSort fun a b => decide (a ≤ b)).map encStr) = (sortT x).map Value.string := by
  unfold sortT
  rw [List.map_map]
  rfl
theorem setT_nil : setT [] = [] := rfl
set_option maxHeartbeats 2000000 in
set_option maxRecDepth 100000 in
theorem cSorted {val : Value} {x : List ByteArray} {lo hi : Nat} {w : World} (h : Ob TX w lo hi val x) (hx : x.length ≤ 4194304) :
    Calls Try.prog 63 #[val] w fun e w' => ∃ v', e = .returned v' ∧ Ob (TO 9) w' w.heap.size w'.heap.size v' (setT x) ∧ Up w w' := by
  obtain ⟨a, cap, rfl⟩ := h.1.form
  obtain ⟨i0, hi0, hz0, hz1, hz2⟩ := info_parts Try.infoStr
  have HV := Lib.hid h
  clear h
  by_cases h0 : x.length = 0
  · obtain rfl : x = [] := List.eq_nil_of_length_eq_zero h0
    clear HV h0
    go_enter Try.func63, Try.ntmps63
    cases a with
    | none =>
      go_wp2_with (first
        | (at_builtin; refine wpList_app_none rfl _ _ 22 rfl w.heap.size 9 i0 1 Try.underlying22 hi0 (.slice none 0 0) 0 [] rfl (World.ownsRow_nil _ _ _ _) cap rfl ?_)
        | (go_at_call 111; refine (Try.sort_Strings_none _ _ _).mono ?_; rintro e w' ⟨rfl, rfl⟩))
      go_loop [4, 13] (fun o i => o = .slice none 0 0 ∧ i = .int .i64 0) (fun _ _ => 0)
      case atStart => exact ⟨rfl, rfl⟩
      case round =>
        obtain ⟨rfl, rfl⟩ := hrel
        go_wp2
        go_ret
        exact ⟨_, rfl, ⟨TO.nil_ _ _ _ _, Nat.le_refl _⟩, Up.rf _⟩
    | some ad =>
      go_wp2_with (first
        | (at_builtin; refine wpList_append_own _ rfl _ _ 22 rfl w.heap.size 9 i0 _ 1 16 Try.underlying22 hi0 hz0 hz1 hz2 rfl (by decide) (.slice none 0 0) 0 [] rfl (World.ownsRow_nil _ _ _ _) ad 0 cap [] rfl rfl (by simp) (by simp) (by unfold maxLen; omega) (by omega) (Nat.le_refl _) ?_; intro v' w1 hown hgrow hnil; obtain rfl : v' = .slice none 0 0 := hnil.2 ⟨rfl, rfl⟩; have HU : Hid (Up w w1) := (Up.rf w).grown hgrow (fun g hg => by simp [Value.ownBlock] at hg); clear hown hgrow hnil)
        | (go_at_call 111; refine (Try.sort_Strings_none _ _ _).mono ?_; rintro e w' ⟨rfl, rfl⟩))
      go_loop [4, 13] (fun o i => o = .slice none 0 0 ∧ i = .int .i64 0) (fun _ _ => 0)
      case atStart => exact ⟨rfl, rfl⟩
      case round =>
        obtain ⟨rfl, rfl⟩ := hrel
        go_wp2
        go_ret
        exact ⟨_, rfl, ⟨TO.nil_ _ _ _ _, Nat.le_refl _⟩, HU.out⟩
  · obtain ⟨b, off, rfl, -, -, -⟩ := HV.out.1.at (show 0 < x.length by omega)
    have hn := Lib.hid (TX.news HV.out.1)
    have hlA := sortT_len x
    have HLA := Lib.hid hlA
    have HL0 := Lib.hid h0
    clear hlA h0
    go_enter Try.func63, Try.ntmps63
    go_wp2_with (at_builtin; refine wpList_append_own _ rfl _ _ 22 rfl w.heap.size 9 i0 _ 1 16 Try.underlying22 hi0 hz0 hz1 hz2 rfl (by decide) (.slice none 0 0) 0 [] rfl (World.ownsRow_nil _ _ _ _) ⟨b, off, none⟩ x.length cap (x.map Value.string) rfl (by simp) hn.out (one_strs x) (by unfold maxLen; omega) (by omega) (Nat.le_refl _) ?_; intro v1 w1 hown hgrow hnil; have HU : Hid (Up w w1) := (Up.rf w).grown hgrow (fun g hg => by simp [Value.ownBlock] at hg); have HO := Lib.hid (show w1.ownsRow w.heap.size 9 1 v1 x.length (x.map Value.string) from (by simpa using hown)); clear hown hgrow hnil)
    have ho := HO.out
    obtain ⟨hol, hoo⟩ := ho
    rcases hoo with ⟨-, h0⟩ | ⟨g, c1, cur, rfl, hlg, hg, hnc, hcm, hcs, htake⟩
    · exact absurd h0 HL0.out
    · have hgl : g < w1.heap.size := (Array.getElem?_eq_some_iff.1 hg).1
      have hH : Holds encStr w1 g 0 (x.map (·.data.toList)).toArray := holds_of_block hg (by rw [List.length_map, enc_data]; simpa using htake)
      have HC := Try.sort_Strings g 0 c1 (x.map (·.data.toList)) w1 hH hgl (by rw [List.length_map]; omega)
      rw [List.length_map] at HC
      have HO2 : Hid (∀ n os, (grow (putRow encStr (Sort.ahead w1 n) g 0 ((x.map (·.data.toList)).mergeSort fun a b => decide (a ≤ b)).toArray) os).ownsRow w.heap.size 9 1 (.slice (some ⟨g, 0, none⟩) x.length c1) x.length ((sortT x).map Value.string)) := by
        intro n os
        have := ownsRow_sorted (n := n) (os := os) (base := w.heap.size) (ss := x.map (·.data.toList)) (ts := (x.map (·.data.toList)).mergeSort fun a b => decide (a ≤ b)) (by simp) hlg hg (by rw [List.length_map]; exact hnc) hcm hcs
        rw [List.length_map, enc_sort] at this
        exact this
      have HG2 : Hid (∀ n os, w1.grownBy (grow (putRow encStr (Sort.ahead w1 n) g 0 ((x.map (·.data.toList)).mergeSort fun a b => decide (a ≤ b)).toArray) os) (some g)) := fun n os => grownBy_sorted _
      have HLG := Lib.hid hlg
      clear hol hlg hg hnc hcm hcs htake hgl hH HO hn HV
      have HC' := Lib.hid HC
      clear HC
      go_wp2_with fail
      refine HC'.out.mono ?_
      rintro e w2 ⟨rfl, n, os, ew⟩
      have ho2 := HO2.out n os
      have hg2 := HG2.out n os
      rw [← ew] at ho2 hg2
      have hgl2 : ∀ g', some g = some g' → w.heap.size ≤ g' := by
        intro g' hg'
        obtain rfl : g = g' := by simpa using hg'
        exact HLG.out
      have HU2 : Hid (Up w w2) := HU.out.grown hg2 hgl2
      have HA : Hid (Ob TX w2 w.heap.size w2.heap.size (.slice (some ⟨g, 0, none⟩) x.length c1) (sortT x)) :=
        ⟨(show TO 9 w2 w.heap.size w2.heap.size (.slice (some ⟨g, 0, none⟩) x.length c1) (sortT x) from ⟨by rw [HLA.out]; exact ho2, fun g' hg' => (ho2.lt g' hg').2⟩).tx, Nat.le_refl _⟩
      clear ew ho2 hg2 HO2 HG2 HC' HU HLG hgl2
      go_wp2_with fail
      go_loopw [4, 13] (fun o i wr => ∃ (k : Nat), k ≤ x.length ∧ i = .int .i64 k ∧ Up w2 wr ∧ Hid (TO 9 wr w2.heap.size wr.heap.size o (ddK (sortT x) k))) (fun _ i _ => x.length - (intOf i).toNat)
      case atStart => exact ⟨0, Nat.zero_le _, rfl, Up.rf _, TO.nil_ _ _ _ _⟩
      case round =>
        obtain ⟨k, hk, rfl, hb, HP⟩ := hrel
        by_cases hlt : k < x.length
        · have hltA : k < (sortT x).length := by rw [HLA.out]; exact hlt
          obtain ⟨b9, off9, e9, -, -, c0⟩ := (HA.out.up hb).1.at hltA
          have i1 : (0 : Int) ≤ (k : Int) := by omega
          have i2 : (k : Int) < (x.length : Int) := by omega
          have hdl := ddK_len (sortT x) k
          have hdl2 : (ddK (sortT x) k).length ≤ 4194304 := by omega
          have hbs := hb.size
          injection e9 with e9
          injection e9 with e9a e9b
          subst e9a e9b
          rw [Nat.zero_add] at c0
          have HN := Lib.hid (news1 (Blk.new wr 9 #[.string (sortT x)[k]]))
          have hba : w2.heap.size ≤ (wr.alloc (.cells #[.string (sortT x)[k]] 9)).heap.size := by simp; omega
          clear hdl
          by_cases hk0 : k = 0
          · have HE : Hid (ddK (sortT x) (k + 1) = ddK (sortT x) k ++ [(sortT x)[k]]) := ddK_t hltA (by subst hk0; rfl)
            have hd : ((k : Int) == 0) = true := by simp [hk0]
            clear hk0
            go_wp2_with (at_builtin; refine wpList_append_own _ rfl _ _ 22 rfl w2.heap.size 9 i0 _ 1 16 Try.underlying22 hi0 hz0 hz1 hz2 rfl (by decide) _ (ddK (sortT x) k).length ((ddK (sortT x) k).map Value.string) rfl (HP.out.1.alloc _) ⟨wr.heap.size, 0, none⟩ 1 1 [.string (sortT x)[k]] rfl rfl HN.out (one1 rfl) (by unfold maxLen; omega) (by omega) hba ?_; intro v3 w3 hown' hgrow _)
            have hb3 : Up w2 w3 := (hb.al _).grown hgrow (fun g hg => (HP.out.1.lt g hg).1)
            have hP3 : Hid (TO 9 w3 w2.heap.size w3.heap.size v3 (ddK (sortT x) (k + 1))) := by show TO _ _ _ _ _ _; rw [HE.out]; exact TO.snoc hown'
            clear hown' hgrow HP HN
            go_wp2
            exact ⟨⟨k+1, by omega, by go_num, hb3, hP3.out⟩, by simp [intOf]; omega⟩
          · obtain ⟨j, rfl⟩ : ∃ j, k = j + 1 := ⟨k - 1, by omega⟩
            have hjA : j < (sortT x).length := by omega
            have hd : (((j : Int) + 1) == 0) = false := by simp; omega
            have hw : IntKind.i64.wrap ((j : Int) + 1 - 1) = (j : Int) := by rw [show (j : Int) + 1 - 1 = j by omega]; exact IntWalk.i64_in _ (by omega)
            have i3 : (0 : Int) ≤ (j : Int) := by omega
            have i4 : (j : Int) < (x.length : Int) := by omega
            obtain ⟨b8, off8, e8, -, -, d0⟩ := (HA.out.up hb).1.at hjA
            injection e8 with e8
            injection e8 with e8a e8b
            subst e8a e8b
            rw [Nat.zero_add] at d0
            have hks := ddKeep_s hltA
            cases hq : ((sortT x)[j].toList == (sortT x)[j + 1].toList)
            · have HE : Hid (ddK (sortT x) (j + 1 + 1) = ddK (sortT x) (j + 1) ++ [(sortT x)[j + 1]]) := ddK_t hltA (by rw [hks]; simpa using str_eq_f hq)
              clear hks hk0
              go_wp2_with (at_builtin; refine wpList_append_own _ rfl _ _ 22 rfl w2.heap.size 9 i0 _ 1 16 Try.underlying22 hi0 hz0 hz1 hz2 rfl (by decide) _ (ddK (sortT x) (j + 1)).length ((ddK (sortT x) (j + 1)).map Value.string) rfl (HP.out.1.alloc _) ⟨wr.heap.size, 0, none⟩ 1 1 [.string (sortT x)[j + 1]] rfl rfl HN.out (one1 rfl) (by unfold maxLen; omega) (by omega) hba ?_; intro v3 w3 hown' hgrow _)
              have hb3 : Up w2 w3 := (hb.al _).grown hgrow (fun g hg => (HP.out.1.lt g hg).1)
              have hP3 : Hid (TO 9 w3 w2.heap.size w3.heap.size v3 (ddK (sortT x) (j + 1 + 1))) := by show TO _ _ _ _ _ _; rw [HE.out]; exact TO.snoc hown'
              clear hown' hgrow HP HN d0 c0
              clear hw
              go_wp2
              exact ⟨⟨j+1+1, by omega, by go_num, hb3, hP3.out⟩, by simp [intOf]; omega⟩
            · have HE : Hid (ddK (sortT x) (j + 1 + 1) = ddK (sortT x) (j + 1)) := ddK_f (by rw [hks]; simpa using str_eq_t hq)
              clear hks hk0 HN
              go_wp2
              clear d0 c0
              clear hw
              exact ⟨⟨j+1+1, by omega, by go_num, hb, by have h := HP.out; rw [← HE.out] at h; exact h⟩, by simp [intOf]; omega⟩
        · have HE : Hid (ddK (sortT x) k = setT x) := by
            obtain rfl : k = x.length := by omega
            have h := dd_set x
            rw [HLA.out] at h
            exact h
          have hP := HP.out
          rw [HE.out] at hP
          have HP2 := Lib.hid (hP.mono HU2.out.size (Nat.le_refl _))
          clear hP HP
          go_wp2
          go_ret
          exact ⟨_, rfl, ⟨HP2.out, Nat.le_refl _⟩, HU2.out.tr hb⟩
end Go.Proofs.Ytojgkodffmdnpaa
