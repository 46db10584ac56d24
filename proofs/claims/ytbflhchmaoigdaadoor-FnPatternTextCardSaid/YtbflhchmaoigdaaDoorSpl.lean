/- Split, the program's and the reference's: a text divided at each instance of another one; wherever the lengths can be counted. -/
import Derived.Shelf.Vars
import Derived.Deep.AppendLies
import Derived.Test.YtbflhchmaoigdaaDoorShelf
import Derived.Test.YtbflhchmaoigdaaDoorApp
import Derived.Test.YtbflhchmaoigdaaDoorPl1
namespace Go.Proofs.YtbflhchmaoigdaaDoor
open Go.RowKit
attribute [local go_sem ↓] Go.wp_at_zero Go.wp_at_succ
set_option linter.unusedVariables false
/-- the library's limit holds some number -/
def MxL (w : World) : Prop := ∃ m, w.cell? ⟨1, 0, none⟩ = some (.int .i64 m)
theorem MxL.up {w w' : World} (h : MxL w) (hb : Up w w') : MxL w' := by obtain ⟨m, hm⟩ := h; exact ⟨m, keepCell hb hm⟩
theorem mxl_of {W : World} (h : W.ShapedOpen Tryd.prog) : MxL W :=
  cell_of_shapedOpen_int (t := 3) (zero := #[.int .i64 0]) h (of_decide_eq_true (by kernel_rfl)) (by kernel_rfl) rfl (by kernel_rfl) (by kernel_rfl) Tryd.underlying3
theorem TO.row_ (E : TypeId) (w : World) (L : List ByteArray) (hl : L.length ≤ 4194305) : TO E (w.alloc (.cells (L.map Value.string).toArray E)) w.heap.size (w.alloc (.cells (L.map Value.string).toArray E)).heap.size (.slice (some ⟨w.heap.size, 0, none⟩) L.length L.length) L := by
  have h := World.ownsRow_lit (e := E) (size := 1) w (L.map Value.string).toArray L.length (Nat.le_refl _) (by unfold maxLen; omega) (by simp)
  exact ⟨by simpa using h, fun g hg => (h.lt g hg).2⟩
theorem sep_f {sep : ByteArray} (h : sep.size ≠ 0) : (sep.toList == ([] : List UInt8)) = false := by
  rw [ByteArray.toList_eq]
  cases hq : sep.data.toList with
  | nil => exact absurd (by rw [Lib.size_eq, hq]; rfl) h
  | cons a r => rfl
theorem sep_t {sep : ByteArray} (h : sep.size = 0) : sep = ⟨#[]⟩ := data_inj (by rw [Lib.size_eq] at h; exact List.eq_nil_of_length_eq_zero h)
theorem cSplit {s sep : ByteArray} {w : World} (hM : MxL w) (hs : s.size ≤ 1048576) :
    Calls Tryd.prog 17 #[.string s, .string sep] w fun e w' => ∃ v', e = .returned v' ∧ Ob (TO 9) w' w.heap.size w'.heap.size v' (splitV s sep) ∧ Up w w' := by
  by_cases h0 : sep.size = 0
  · have HO := Lib.hid (TO.row_ 9 w [s] (by simp))
    have HV : Hid (splitV s sep = [s]) := by show _ = _; unfold splitV; rw [if_pos h0]
    obtain rfl := sep_t h0
    clear h0
    go_enter Tryd.func17, Tryd.ntmps17
    go_wp2_with fail
    go_ret
    exact ⟨_, rfl, ⟨by rw [HV.out]; exact HO.out, Nat.le_refl _⟩, Up.al1 _ _⟩
  · have h1 := sep_f h0
    obtain ⟨m, hm⟩ := hM
    have hl := spB_le s sep (by omega)
    have HO := Lib.hid (TO.row_ 9 w (spB s sep) (by omega))
    have HL := Lib.hid (spB_len s sep (by omega))
    have HV : Hid (splitV s sep = spB s sep) := by show _ = _; unfold splitV; rw [if_neg h0]
    go_enter Tryd.func17, Tryd.ntmps17
    go_wp2_with fail
    refine (Tryd.strings_Split s sep m _ (by omega) hm (by omega)).mono ?_
    rintro e w1 ⟨rfl, hw1⟩
    have HU : Hid (Up w w1) := by rw [hw1]; exact Up.al1 _ _
    have HR : Hid (TO 9 w1 w.heap.size w1.heap.size (.slice (some ⟨w.heap.size, 0, none⟩) (Lib.countB s sep + 1) (Lib.countB s sep + 1)) (spB s sep)) := by
      have := HO.out
      rw [HL.out] at this
      rw [hw1]; exact this
    clear hw1 hm
    go_wp2
    go_ret
    exact ⟨_, rfl, ⟨by rw [HV.out]; exact HR.out, Nat.le_refl _⟩, HU.out⟩
set_option maxHeartbeats 1000000 in
set_option maxRecDepth 100000 in
theorem cSplitS {s sep : ByteArray} {w : World} (hs : s.size ≤ 1048576) (hsp : sep.size ≤ 1048576) :
    Calls Tryd.prog 16 #[.string s, .string sep] w fun e w' => ∃ v', e = .returned v' ∧ Ob (TO 9) w' w.heap.size w'.heap.size v' (splitV s sep) ∧ Up w w' := by
  obtain ⟨i0, hi0, hz0, hz1, hz2⟩ := info_parts Tryd.infoStr
  by_cases h0 : sep.size = 0
  · have HV : Hid (splitV s sep = [] ++ [s]) := by show _ = _; unfold splitV; rw [if_pos h0]; rfl
    obtain rfl := sep_t h0
    clear h0
    have HM := Lib.hid (TO.made_ 9 w)
    have hn9 := news1 (Blk.new (w.alloc (.cells #[] 9)) 9 #[.string s])
    rw [show (w.alloc (.cells #[] 9)).heap.size = w.heap.size + 1 from by simp] at hn9
    have HN := Lib.hid hn9
    clear hn9
    go_enter Tryd.func16, Tryd.ntmps16
    go_wp2_with (at_builtin; refine wpList_append_own _ rfl _ _ 24 rfl w.heap.size 9 i0 _ 1 16 Tryd.underlying24 hi0 hz0 hz1 hz2 rfl (by decide) _ 0 [] rfl (HM.out.1.alloc _) ⟨w.heap.size + 1, 0, none⟩ 1 1 [.string s] rfl rfl HN.out (one1 rfl) (by unfold maxLen; omega) (by omega) (by simp; omega) ?_; intro v1 w1 hown' hgrow _)
    have hb1 : Up w w1 := ((Up.al1 w _).al _).grown hgrow (fun g hg => (HM.out.1.lt g hg).1)
    have HO : Hid (TO 9 w1 w.heap.size w1.heap.size v1 (splitV s ⟨#[]⟩)) := by show TO _ _ _ _ _ _; rw [HV.out]; exact TO.snoc hown'
    clear hown' hgrow HM HN
    go_wp2
    go_ret
    exact ⟨_, rfl, ⟨HO.out, Nat.le_refl _⟩, hb1⟩
  · have h1 := sep_f h0
    have HV : Hid (splitV s sep = spB s sep) := by show _ = _; unfold splitV; rw [if_neg h0]
    have hp : 1 ≤ sep.size := by omega
    clear h0
    go_enter Tryd.func16, Tryd.ntmps16
    go_wp2_with fail
    go_loopw [5, 6, 7] (fun o f i wr => ∃ (L : List ByteArray) (fr k : Nat), fr ≤ k ∧ k ≤ s.size ∧ L.length ≤ fr ∧ i = .int .i64 k ∧ f = .int .i64 fr ∧ Hid (SplI s sep L fr k) ∧ Up w wr ∧ Hid (TO 9 wr w.heap.size wr.heap.size o L)) (fun _ _ i _ => s.size - (intOf i).toNat)
    case atStart => exact ⟨[], 0, 0, Nat.le_refl _, Nat.zero_le _, Nat.le_refl _, rfl, rfl, SplI.start s sep, Up.al1 _ _, TO.made_ _ _⟩
    case round =>
      clear h1
      obtain ⟨L, fr, k, hfk, hk, hL, rfl, rfl, HI, hb, HO⟩ := hrel
      have i0' : (0 : Int) ≤ (k : Int) := by omega
      have i1 : (0 : Int) ≤ (fr : Int) := by omega
      by_cases hr : k + sep.size ≤ s.size
      · have hr' : (k : Int) + sep.size ≤ s.size := by omega
        cases hq : ((s.extract k (k + sep.size)).toList == sep.toList)
        · have HJ := Lib.hid (HI.out.miss hp hr hq)
          go_wp2_with fail
          exact ⟨⟨L, fr, k + 1, by omega, by omega, hL, by go_num, rfl, HJ.out, hb, HO.out⟩, by simp [intOf]; omega⟩
        · have HJ := Lib.hid (HI.out.hit hp hr hq)
          have HN := Lib.hid (news1 (Blk.new wr 9 #[.string (s.extract fr k)]))
          have hba : w.heap.size ≤ (wr.alloc (.cells #[.string (s.extract fr k)] 9)).heap.size := by have := hb.size; simp; omega
          go_wp2_with (at_builtin; refine wpList_append_own _ rfl _ _ 24 rfl w.heap.size 9 i0 _ 1 16 Tryd.underlying24 hi0 hz0 hz1 hz2 rfl (by decide) _ L.length (L.map Value.string) rfl (HO.out.1.alloc _) ⟨wr.heap.size, 0, none⟩ 1 1 [.string (s.extract fr k)] rfl rfl HN.out (one1 rfl) (by unfold maxLen; omega) (by omega) hba ?_; intro v1 w1 hown' hgrow _)
          have hb1 : Up w w1 := (hb.al _).grown hgrow (fun g hg => (HO.out.1.lt g hg).1)
          have HO1 : Hid (TO 9 w1 w.heap.size w1.heap.size v1 (L ++ [s.extract fr k])) := TO.snoc hown'
          clear hown' hgrow HO HN
          go_wp2
          exact ⟨⟨L ++ [s.extract fr k], k + sep.size, k + sep.size, Nat.le_refl _, hr, HJ.out.len, by go_num, by go_num, HJ.out, hb1, HO1.out⟩, by simp [intOf]; omega⟩
      · have HE := Lib.hid (HI.out.stop hp (by omega))
        have hr' : (s.size : Int) < (k : Int) + sep.size := by omega
        have HN := Lib.hid (news1 (Blk.new wr 9 #[.string (s.extract fr s.size)]))
        have hba : w.heap.size ≤ (wr.alloc (.cells #[.string (s.extract fr s.size)] 9)).heap.size := by have := hb.size; simp; omega
        go_wp2_with (at_builtin; refine wpList_append_own _ rfl _ _ 24 rfl w.heap.size 9 i0 _ 1 16 Tryd.underlying24 hi0 hz0 hz1 hz2 rfl (by decide) _ L.length (L.map Value.string) rfl (HO.out.1.alloc _) ⟨wr.heap.size, 0, none⟩ 1 1 [.string (s.extract fr s.size)] rfl rfl HN.out (one1 rfl) (by unfold maxLen; omega) (by omega) hba ?_; intro v1 w1 hown' hgrow _)
        have hb1 : Up w w1 := (hb.al _).grown hgrow (fun g hg => (HO.out.1.lt g hg).1)
        have HO1 : Hid (TO 9 w1 w.heap.size w1.heap.size v1 (splitV s sep)) := by show TO _ _ _ _ _ _; rw [HV.out, ← HE.out]; exact TO.snoc hown'
        clear hown' hgrow HO HN
        go_wp2
        go_ret
        exact ⟨_, rfl, ⟨HO1.out, Nat.le_refl _⟩, hb1⟩
end Go.Proofs.YtbflhchmaoigdaaDoor
