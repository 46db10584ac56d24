/- What is drawn for the laws on texts: numbers, words, texts to divide, lists of words. -/
import Derived.Deep.AppendLies
import Derived.Test.YtbflhchmaoigdaaDoorDr1
namespace Go.Proofs.YtbflhchmaoigdaaDoor
open Go.RowKit
attribute [local go_sem ↓] Go.wp_at_zero Go.wp_at_succ
set_option linter.unusedVariables false
theorem cBig {v : Value} {L : List Int} {lo hi : Nat} {w : World} (h : Ob BX w lo hi v L) : Calls Tryd.prog 26 #[v] w fun e w' => e = .returned (.bool (decide ((4096 : Int) < L.length))) ∧ w = w' := by
  obtain ⟨a, cap, rfl⟩ := h.1.form
  clear h
  go_enter Tryd.func26, Tryd.ntmps26
  go_wp2
  go_ret
  exact ⟨rfl, rfl⟩
theorem cDrawFormatInt {v : Value} {L : List Int} {lo hi : Nat} {w : World} (h : Ob BX w lo hi v L) (hok : ∀ n ∈ L, okB n) (hl : L.length ≤ 4096) :
    Calls Tryd.prog 50 #[v] w fun e w' => ∃ n, e = .returned (.int .i64 n) ∧ okI n ∧ Up w w' := by
  go_enter Tryd.func50, Tryd.ntmps50
  go_wp2_with fail
  refine (cNew h hok hl).mono ?_
  rintro e w1 ⟨g, rfl, hg, hc, b1⟩
  go_wp2_with fail
  refine (cOnce (n := 3) hc (by decide) (by decide)).mono ?_
  rintro e w2 ⟨b, rfl, hd⟩
  have HU := Lib.hid (hd.below b1 hg)
  have HC := Lib.hid hd.1
  clear hd b1
  cases b
  · go_wp2_with fail
    refine (cBelow (n := 12000) HC.out (by decide) (by decide)).mono ?_
    rintro e w3 ⟨k, rfl, hk, hd⟩
    have HU2 := Lib.hid (hd.below HU.out hg)
    clear hd
    go_wp2
    go_ret
    exact ⟨_, rfl, by unfold okI; omega, HU2.out⟩
  · go_wp2_with fail
    refine (cOdd HC.out).mono ?_
    rintro e w3 ⟨k, rfl, hk, hd⟩
    have HU2 := Lib.hid (hd.below HU.out hg)
    clear hd
    go_wp2
    go_ret
    refine ⟨_, rfl, ?_, HU2.out⟩
    have hall : ∀ n ∈ oddsL, okI n := by unfold oddsL okI; simp
    exact hall _ hk
theorem cDrawIsTerm {v : Value} {L : List Int} {lo hi : Nat} {w : World} (h : Ob BX w lo hi v L) (hok : ∀ n ∈ L, okB n) (hl : L.length ≤ 4096) :
    Calls Tryd.prog 52 #[v] w fun e w' => ∃ s, e = .returned (.string s) ∧ okW s = true ∧ Up w w' := by
  go_enter Tryd.func52, Tryd.ntmps52
  go_wp2_with fail
  refine (cNew h hok hl).mono ?_
  rintro e w1 ⟨g, rfl, hg, hc, b1⟩
  go_wp2_with fail
  refine (cWord hc).mono ?_
  rintro e w2 ⟨s, rfl, hs, hd⟩
  have HU := Lib.hid (hd.below b1 hg)
  have HS := Lib.hid hs
  clear hd b1 hs
  go_wp2
  go_ret
  exact ⟨_, rfl, HS.out, HU.out⟩
theorem cDrawCmpAtoms {v : Value} {L : List Int} {lo hi : Nat} {w : World} (h : Ob BX w lo hi v L) (hok : ∀ n ∈ L, okB n) (hl : L.length ≤ 4096) :
    Calls Tryd.prog 58 #[v] w fun e w' => ∃ s t, e = .returned (.tuple #[.string s, .string t]) ∧ okW s = true ∧ okW t = true ∧ Up w w' := by
  go_enter Tryd.func58, Tryd.ntmps58
  go_wp2_with fail
  refine (cNew h hok hl).mono ?_
  rintro e w1 ⟨g, rfl, hg, hc, b1⟩
  go_wp2_with fail
  refine (cWord hc).mono ?_
  rintro e w2 ⟨s, rfl, hs, hd⟩
  have HU := Lib.hid (hd.below b1 hg)
  have HC := Lib.hid hd.1
  have HS := Lib.hid hs
  clear hd b1 hs
  go_wp2_with fail
  refine (cWord HC.out).mono ?_
  rintro e w3 ⟨t, rfl, ht, hd⟩
  have HU2 := Lib.hid (hd.below HU.out hg)
  have HT := Lib.hid ht
  clear hd ht
  go_wp2
  go_ret2
  exact ⟨_, _, rfl, HS.out, HT.out, HU2.out⟩
def splL : List ByteArray := [⟨#[97]⟩, ⟨#[98]⟩, ⟨#[44]⟩, ⟨#[44, 32]⟩, ⟨#[32]⟩, ⟨#[45, 62]⟩]
def sepL : List ByteArray := [⟨#[44]⟩, ⟨#[44, 32]⟩, ⟨#[32]⟩, ⟨#[45, 62]⟩, ⟨#[]⟩, ⟨#[97, 97]⟩]
theorem splL_2 {s : ByteArray} (h : s ∈ splL) : s.size ≤ 2 := of_decide_eq_true (List.all_eq_true.1 (show splL.all (fun s => decide (s.size ≤ 2)) = true by decide) s h)
theorem sepL_2 {s : ByteArray} (h : s ∈ sepL) : s.size ≤ 2 := of_decide_eq_true (List.all_eq_true.1 (show sepL.all (fun s => decide (s.size ≤ 2)) = true by decide) s h)
set_option maxHeartbeats 1000000 in
theorem cDrawSplit {v : Value} {L : List Int} {lo hi : Nat} {w : World} (h : Ob BX w lo hi v L) (hok : ∀ n ∈ L, okB n) (hl : L.length ≤ 4096) :
    Calls Tryd.prog 67 #[v] w fun e w' => ∃ s t, e = .returned (.tuple #[.string s, .string t]) ∧ s.size ≤ 100 ∧ t.size ≤ 2 ∧ Up w w' := by
  go_enter Tryd.func67, Tryd.ntmps67
  go_wp2_with fail
  refine (cNew h hok hl).mono ?_
  rintro e w1 ⟨g, rfl, hg, hc, b1⟩
  go_wp2_with fail
  refine (cBelow (n := 7) hc (by decide) (by decide)).mono ?_
  rintro e w2 ⟨k0, rfl, hk0, hd⟩
  have HU := Lib.hid (hd.below b1 hg)
  have HC := Lib.hid hd.1
  clear hd b1 hc h hok
  go_wp2_with fail
  go_loopw [5, 6] (fun s n wr => ∃ (k : Nat) (c : ByteArray), k ≤ 6 ∧ n = .int .i64 k ∧ s = .string c ∧ c.size + 2 * k ≤ 12 ∧ Hid (Cur 110 wr g) ∧ Hid (Up w wr)) (fun _ n _ => (intOf n).toNat)
  case atStart => exact ⟨k0, _, by omega, rfl, rfl, by simp [ByteArray.size]; omega, HC.out, HU.out⟩
  case round =>
    clear HC HU
    obtain ⟨k, c, hk, rfl, rfl, hcz, HC, HU⟩ := hrel
    have i1 : (0 : Int) ≤ (k : Int) := by omega
    by_cases h0 : k = 0
    · have i2 : ¬ (0 : Int) < (k : Int) := by omega
      go_wp2_with fail
      refine (cStr (HC.out.up (Up.al1 _ _)) (TX.row_ 9 wr sepL (by decide)) (.inr HC.out.lt) (by decide) (by decide)).mono ?_
      rintro e w3 ⟨t, rfl, ht, hd⟩
      have HT := Lib.hid (sepL_2 ht)
      have HU2 := Lib.hid ((Dr.pre (Up.al1 _ _) hd).below HU.out hg)
      clear hd ht
      go_wp2
      go_ret2
      exact ⟨_, _, rfl, by omega, HT.out, HU2.out⟩
    · have i2 : (0 : Int) < (k : Int) := by omega
      go_wp2_with fail
      refine (cStr (HC.out.up (Up.al1 _ _)) (TX.row_ 9 wr splL (by decide)) (.inr HC.out.lt) (by decide) (by decide)).mono ?_
      rintro e w3 ⟨t, rfl, ht, hd⟩
      have ht2 := splL_2 ht
      have hd2 := Dr.pre (Up.al1 _ _) hd
      have HU2 := Lib.hid (hd2.below HU.out hg)
      have HC2 := Lib.hid hd2.1
      have hz : c.size + t.size ≤ 9223372036854775807 := by omega
      clear hd ht hd2
      go_wp2
      exact ⟨⟨k - 1, c ++ t, by omega, by go_num, rfl, by rw [ByteArray.size_append]; omega, HC2.out, HU2.out⟩, by simp [intOf]; omega⟩
set_option maxHeartbeats 1000000 in
set_option maxRecDepth 100000 in
theorem cDrawSorted {v : Value} {L : List Int} {lo hi : Nat} {w : World} (h : Ob BX w lo hi v L) (hok : ∀ n ∈ L, okB n) (hl : L.length ≤ 4096) :
    Calls Tryd.prog 69 #[v] w fun e w' => ∃ v', e = .returned v' ∧ ∃ M, Ob (TO 9) w' w.heap.size w'.heap.size v' M ∧ M.length ≤ 6 ∧ (∀ s ∈ M, okW s = true) ∧ Up w w' := by
  obtain ⟨i0, hi0, hz0, hz1, hz2⟩ := info_parts Tryd.infoStr
  go_enter Tryd.func69, Tryd.ntmps69
  go_wp2_with fail
  refine (cNew h hok hl).mono ?_
  rintro e w1 ⟨g, rfl, hg, hc, b1⟩
  have hgl := hc.lt
  have hma := TO.made_ 9 w1
  have hb1a : Up w1 (w1.alloc (.cells #[] 9)) := Up.al1 _ _
  go_wp2_with fail
  refine (cBelow (n := 7) (hc.up (Up.al1 _ _)) (by decide) (by decide)).mono ?_
  rintro e w2 ⟨k0, rfl, hk0, hd⟩
  have HU := Lib.hid (hd.below (b1.tr hb1a) hg)
  have HC := Lib.hid hd.1
  have HO : Hid (TO 9 w2 (g + 1) w2.heap.size (.slice (some ⟨w1.heap.size, 0, none⟩) 0 0) []) := ((show Ob (TO 9) (w1.alloc (.cells #[] 9)) w1.heap.size (w1.alloc (.cells #[] 9)).heap.size _ [] from ⟨hma, Nat.le_refl _⟩).dr_ hd (.inr hgl)).1.mono (by omega) hd.2.size
  clear hd b1 hc h hok hma hb1a
  go_wp2_with fail
  go_loopw [4, 5] (fun l n wr => ∃ (k : Nat) (M : List ByteArray), k ≤ 6 ∧ n = .int .i64 k ∧ M.length + k ≤ 6 ∧ Hid (∀ s ∈ M, okW s = true) ∧ g < wr.heap.size ∧ Hid (Cur 110 wr g) ∧ Hid (Up w wr) ∧ Hid (TO 9 wr (g + 1) wr.heap.size l M)) (fun _ n _ => (intOf n).toNat)
  case atStart =>
    have h0 : Hid (∀ s ∈ ([] : List ByteArray), okW s = true) := fun s h => by cases h
    exact ⟨k0, [], by omega, rfl, by simp; omega, h0, HC.out.lt, HC.out, HU.out, HO.out⟩
  case round =>
    clear HC HU HO
    obtain ⟨k, M, hk, rfl, hM, HM, hgr, HC, HU, HO⟩ := hrel
    have i1 : (0 : Int) ≤ (k : Int) := by omega
    by_cases h0 : k = 0
    · have i2 : ¬ (0 : Int) < (k : Int) := by omega
      go_wp2
      go_ret
      exact ⟨_, rfl, M, ⟨HO.out.mono (by omega) (Nat.le_refl _), Nat.le_refl _⟩, by omega, HM.out, HU.out⟩
    · have i2 : (0 : Int) < (k : Int) := by omega
      go_wp2_with fail
      refine (cWord HC.out).mono ?_
      rintro e w3 ⟨s, rfl, hs, hd⟩
      have HO3 := Lib.hid ((show Ob (TO 9) wr (g + 1) wr.heap.size _ M from ⟨HO.out, Nat.le_refl _⟩).dr_ hd (.inr (Nat.lt_succ_self g))).1
      have HC3 := Lib.hid hd.1
      have HU3 := Lib.hid (hd.below HU.out hg)
      have HS := Lib.hid hs
      have hs3 := hd.2.size
      have hbase : g + 1 ≤ (w3.alloc (.cells #[.string s] 9)).heap.size := by simp; omega
      have HN := Lib.hid (news1 (Blk.new w3 9 #[.string s]))
      have hMl : M.length ≤ 6 := by omega
      clear hd hs HC HU HO
      go_wp2_with (at_builtin; refine wpList_append_own _ rfl _ _ 24 rfl (g + 1) 9 i0 _ 1 16 Tryd.underlying24 hi0 hz0 hz1 hz2 rfl (by decide) _ M.length (M.map Value.string) rfl (HO3.out.1.alloc _) ⟨w3.heap.size, 0, none⟩ 1 1 [.string s] rfl rfl HN.out (one1 rfl) (by unfold maxLen; omega) (by omega) hbase ?_; intro v' w4 hown' hgrow _)
      have HO4 : Hid (TO 9 w4 (g + 1) w4.heap.size v' (M ++ [s])) := TO.snoc hown'
      have hlt4 : ∀ b, Value.ownBlock _ = some b → g < b ∧ b < (w3.alloc (.cells #[.string s] 9)).heap.size := fun b hb => by have := (HO3.out.1.alloc (.cells #[.string s] 9)).lt b hb; omega
      have HC4 : Hid (Cur 110 w4 g) := (HC3.out.up (Up.al1 _ _)).grown hgrow hlt4
      have HU4 : Hid (Up w w4) := (HU3.out.al _).grown hgrow (fun b hb => by have := (HO3.out.1.lt b hb).1; omega)
      have hg4 : g < w4.heap.size := HC4.out.lt
      clear hown' hgrow hlt4 HO3 HC3 HU3 HN
      go_wp2
      exact ⟨⟨k - 1, M ++ [s], by omega, by go_num, by simp; omega, fun t ht => by rcases List.mem_append.1 ht with ht | ht; exact HM.out t ht; simp at ht; subst ht; exact HS.out, hg4, HC4.out, HU4.out, HO4.out⟩, by simp [intOf]; omega⟩
end Go.Proofs.YtbflhchmaoigdaaDoor
