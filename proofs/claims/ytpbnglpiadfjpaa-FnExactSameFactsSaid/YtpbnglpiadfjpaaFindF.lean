/- FindFact and SameFacts, of impl and of spec, on lists of facts; wherever the lengths can be counted. -/
import Derived.Test.YtpbnglpiadfjpaaFacts
namespace Go.Proofs.Ytpbnglpiadfjpaa
open Go.RowKit
attribute [local go_sem ↓] Go.wp_at_zero Go.wp_at_succ
set_option linter.unusedVariables false
def findFrom (f : FactV) : Nat → List FactV → Int
  | _, [] => -1
  | k, y :: r => if sameFB y f then k else findFrom f (k + 1) r
def findB (L : List FactV) (f : FactV) : Int := findFrom f 0 L
theorem findFrom_drop (f : FactV) (k : Nat) (L : List FactV) (h : k < L.length) : findFrom f k (L.drop k) = if sameFB L[k] f then (k : Int) else findFrom f (k + 1) (L.drop (k + 1)) := by
  rw [List.drop_eq_getElem_cons h]; rfl
def sameFsB : List FactV → List FactV → Bool
  | [], [] => true
  | a :: r, b :: s => sameFB a b && sameFsB r s
  | _, _ => false
theorem sameFsB_drop (k : Nat) (L M : List FactV) (h : k < L.length) (h' : k < M.length) : sameFsB (L.drop k) (M.drop k) = (sameFB L[k] M[k] && sameFsB (L.drop (k + 1)) (M.drop (k + 1))) := by
  rw [List.drop_eq_getElem_cons h, List.drop_eq_getElem_cons h']; rfl
theorem sameFsB_len (L M : List FactV) (h : L.length ≠ M.length) : sameFsB L M = false := by
  induction L generalizing M with
  | nil => cases M with
    | nil => simp at h
    | cons => rfl
  | cons a r ih => cases M with
    | nil => rfl
    | cons b s => simp only [sameFsB, ih s (by simpa using h), Bool.and_false]
set_option maxHeartbeats 400000 in
theorem cFindFactS {v u : Value} {x : List FactV} {f : FactV} {lo hi lo' hi' : Nat} {w : World} (h : Ob SF w lo hi v x) (h' : Ob AF w lo' hi' u f) :
    Calls Try.prog 22 #[v, u] w fun e w' => e = .returned (.int .i64 (findB x f)) ∧ Up w w' := by
  have hlen := h.1.len
  obtain ⟨a, cap, rfl⟩ := h.1.form
  obtain ⟨d0, q0, rfl⟩ := h'.1.form
  have HV := Lib.hid h
  have HV' := Lib.hid h'
  clear h h'
  have HB := Lib.hid (Up.al1 w (.cells #[.string f.rel, .slice d0 f.args.length q0] 41))
  have K := Lib.hid (Blk.new w 41 #[.string f.rel, .slice d0 f.args.length q0])
  go_enter Try.func22, Try.ntmps22
  go_wp2
  generalize (w.alloc (.cells #[.string f.rel, .slice d0 f.args.length q0] 41)) = W at *
  go_loopw [5] (fun i wr => ∃ (k : Nat), k ≤ x.length ∧ i = .int .i64 k ∧ Hid (findB x f = findFrom f k (x.drop k)) ∧ Up W wr) (fun i _ => x.length - (intOf i).toNat)
  case atStart => exact ⟨0, Nat.zero_le _, rfl, rfl, Up.rf _⟩
  case round =>
    obtain ⟨k, hk, rfl, HE, hb⟩ := hrel
    have hbw := HB.out.tr hb
    by_cases hlt : k < x.length
    · obtain ⟨b, off, d, c, rfl, c0, c1, hA⟩ := SF.at (HV.out.up hbw).1 hlt
      have HO : Hid (Ob AF wr lo hi (.agg #[.string x[k].rel, .slice d x[k].args.length c]) x[k]) := ⟨hA, Nat.le_trans HV.out.2 hbw.size⟩
      have HO' := Lib.hid (HV'.out.up hbw)
      have K' := K.out.up hb
      have d0' := K'.cell0
      have d1' := K'.cell1
      have HF := Lib.hid (findFrom_drop f k x hlt)
      clear hA K' hbw
      have i1 : (0 : Int) ≤ (k : Int) := by omega
      have i2 : (k : Int) < (x.length : Int) := by omega
      cases hq : sameFB x[k] f
      all_goals
        go_wp2_with fail
        go_region_held3 (fun w' => w'.cell? ⟨b, off + k * 2, none⟩ = some (.string x[k].rel) ∧ w'.cell? ⟨b, off + k * 2 + 1, none⟩ = some (.slice d x[k].args.length c) ∧ w'.cell? ⟨w.heap.size, 0, none⟩ = some (.string f.rel) ∧ w'.cell? ⟨w.heap.size, 1, none⟩ = some (.slice d0 f.args.length q0) ∧ Up wr w')
          (first | exact ⟨c0, c1, d0', d1', (Up.rf _).dr⟩ | (have hh := ‹_ ∧ _ ∧ _ ∧ _ ∧ _›; have hb := ‹Up _ _›; exact ⟨keepCell hb hh.1, keepCell hb hh.2.1, keepCell hb hh.2.2.1, keepCell hb hh.2.2.2.1, hh.2.2.2.2.tr hb⟩))
          (first | (go_at_call 67; have hh := ‹_ ∧ _ ∧ _ ∧ _ ∧ _›; (with_reducible refine (cSameFactS (HO.out.up hh.2.2.2.2) (HO'.out.up hh.2.2.2.2)).mono ?_); clear hh; rintro e w1 ⟨rfl, b1⟩; rw [hq]))
        have hb' : Up W w1 := hb.dr.tr b1
        clear b1 hb c0 c1 d0' d1'
        go_wp2
      · exact ⟨⟨k+1, by omega, by go_num, by have := HF.out; rw [hq] at this; exact HE.out.trans this, hb'⟩, by simp [intOf]; omega⟩
      · go_ret
        exact ⟨ret_int (by have := HF.out; rw [hq] at this; exact (HE.out.trans this).symm), HB.out.tr hb'⟩
    · go_wp2
      go_ret
      exact ⟨ret_int (by rw [HE.out, List.drop_of_length_le (by omega)]; rfl), HB.out.tr hb⟩
set_option maxHeartbeats 400000 in
theorem cFindFact {v u : Value} {x : List FactV} {f : FactV} {lo hi lo' hi' : Nat} {w : World} (h : Ob SF w lo hi v x) (h' : Ob AF w lo' hi' u f) :
    Calls Try.prog 25 #[v, u] w fun e w' => e = .returned (.int .i64 (findB x f)) ∧ Up w w' := by
  have hlen := h.1.len
  obtain ⟨a, cap, rfl⟩ := h.1.form
  obtain ⟨d0, q0, rfl⟩ := h'.1.form
  have HV := Lib.hid h
  have HV' := Lib.hid h'
  clear h h'
  have HB := Lib.hid (Up.al1 w (.cells #[.string f.rel, .slice d0 f.args.length q0] 41))
  have K := Lib.hid (Blk.new w 41 #[.string f.rel, .slice d0 f.args.length q0])
  go_enter Try.func25, Try.ntmps25
  go_wp2
  generalize (w.alloc (.cells #[.string f.rel, .slice d0 f.args.length q0] 41)) = W at *
  go_loopw [9] (fun i wr => ∃ (k : Nat), k ≤ x.length ∧ i = .int .i64 k ∧ Hid (findB x f = findFrom f k (x.drop k)) ∧ Up W wr) (fun i _ => x.length - (intOf i).toNat)
  case atStart => exact ⟨0, Nat.zero_le _, rfl, rfl, Up.rf _⟩
  case round =>
    obtain ⟨k, hk, rfl, HE, hb⟩ := hrel
    have hbw := HB.out.tr hb
    by_cases hlt : k < x.length
    · obtain ⟨b, off, d, c, rfl, c0, c1, hA⟩ := SF.at (HV.out.up hbw).1 hlt
      have HO : Hid (Ob AF wr lo hi (.agg #[.string x[k].rel, .slice d x[k].args.length c]) x[k]) := ⟨hA, Nat.le_trans HV.out.2 hbw.size⟩
      have HO' := Lib.hid (HV'.out.up hbw)
      have HF := Lib.hid (findFrom_drop f k x hlt)
      have K' := (K.out.up hb).alloc (.cells #[.string x[k].rel, .slice d x[k].args.length c] 41)
      have d0' := K'.cell0
      have d1' := K'.cell1
      have hb2 := Lib.hid (Up.al1 wr (.cells #[.string x[k].rel, .slice d x[k].args.length c] 41))
      clear hA hbw K'
      have i1 : (0 : Int) ≤ (k : Int) := by omega
      have i2 : (k : Int) < (x.length : Int) := by omega
      cases hq : sameFB x[k] f
      all_goals
        go_wp2_with fail
        clear d0' d1'
        refine (cSameFact (HO.out.up hb2.out) (HO'.out.up hb2.out)).mono ?_
        rintro e w1 ⟨rfl, b1⟩
        rw [hq]
        have hb' : Up W w1 := (hb.tr hb2.out).tr b1
        clear b1 hb c0 c1 hb2
        go_wp2
      · exact ⟨⟨k+1, by omega, by go_num, by have := HF.out; rw [hq] at this; exact HE.out.trans this, hb'⟩, by simp [intOf]; omega⟩
      · go_ret
        exact ⟨ret_int (by have := HF.out; rw [hq] at this; exact (HE.out.trans this).symm), HB.out.tr hb'⟩
    · go_wp2
      go_ret
      exact ⟨ret_int (by rw [HE.out, List.drop_of_length_le (by omega)]; rfl), HB.out.tr hb⟩
set_option maxHeartbeats 400000 in
theorem cSameFacts {v v' : Value} {x y : List FactV} {lo hi lo' hi' : Nat} {w : World} (h : Ob SF w lo hi v x) (h' : Ob SF w lo' hi' v' y) :
    Calls Try.prog 29 #[v, v'] w fun e w' => e = .returned (.bool (sameFsB x y)) ∧ Up w w' := by
  have hlen := h.1.len
  have hlen' := h'.1.len
  obtain ⟨a, cap, rfl⟩ := h.1.form
  obtain ⟨a', cap', rfl⟩ := h'.1.form
  by_cases hl : (x.length : Int) = (y.length : Int)
  · have hl' : y.length = x.length := by omega
    rw [hl'] at h' ⊢
    have HV := Lib.hid h
    have HV' := Lib.hid h'
    have HL := Lib.hid hl'
    clear h h' hl hl' hlen'
    go_enter Try.func29, Try.ntmps29
    go_wp2
    go_loopw [13] (fun i wr => ∃ (k : Nat), k ≤ x.length ∧ i = .int .i64 k ∧ Hid (sameFsB x y = sameFsB (x.drop k) (y.drop k)) ∧ Up w wr) (fun i _ => x.length - (intOf i).toNat)
    case atStart => exact ⟨0, Nat.zero_le _, rfl, rfl, Up.rf w⟩
    case round =>
      obtain ⟨k, hk, rfl, HE, hb⟩ := hrel
      by_cases hlt : k < x.length
      · have hlt' : k < y.length := by have := HL.out; omega
        obtain ⟨b, off, d, c, rfl, c0, c1, hA⟩ := SF.at (HV.out.up hb).1 hlt
        obtain ⟨b', off', d', c', rfl, d0, d1, hA'⟩ := SF.at (HV'.out.up hb).1 hlt'
        have HO : Hid (Ob AF wr lo hi (.agg #[.string x[k].rel, .slice d x[k].args.length c]) x[k]) := ⟨hA, Nat.le_trans HV.out.2 hb.size⟩
        have HO' : Hid (Ob AF wr lo' hi' (.agg #[.string y[k].rel, .slice d' y[k].args.length c']) y[k]) := ⟨hA', Nat.le_trans HV'.out.2 hb.size⟩
        have HF := Lib.hid (sameFsB_drop k x y hlt hlt')
        clear hA hA'
        have i1 : (0 : Int) ≤ (k : Int) := by omega
        have i2 : (k : Int) < (x.length : Int) := by omega
        cases hq : sameFB x[k] y[k]
        all_goals
          go_wp2_with fail
          go_region_held3 (fun w' => w'.cell? ⟨b, off + k * 2, none⟩ = some (.string x[k].rel) ∧ w'.cell? ⟨b, off + k * 2 + 1, none⟩ = some (.slice d x[k].args.length c) ∧ w'.cell? ⟨b', off' + k * 2, none⟩ = some (.string y[k].rel) ∧ w'.cell? ⟨b', off' + k * 2 + 1, none⟩ = some (.slice d' y[k].args.length c') ∧ Up wr w')
            (first | exact ⟨c0, c1, d0, d1, (Up.rf _).dr⟩ | (have hh := ‹_ ∧ _ ∧ _ ∧ _ ∧ _›; have hb := ‹Up _ _›; exact ⟨keepCell hb hh.1, keepCell hb hh.2.1, keepCell hb hh.2.2.1, keepCell hb hh.2.2.2.1, hh.2.2.2.2.tr hb⟩))
            (first | (go_at_call 68; have hh := ‹_ ∧ _ ∧ _ ∧ _ ∧ _›; (with_reducible refine (cSameFact (HO.out.up hh.2.2.2.2) (HO'.out.up hh.2.2.2.2)).mono ?_); clear hh; rintro e w1 ⟨rfl, b1⟩; rw [hq]))
          have hb' : Up w w1 := hb.dr.tr b1
          clear b1 hb c0 c1 d0 d1
          go_wp2
        · go_ret
          exact ⟨ret_bool (by have := HF.out; rw [hq, Bool.false_and] at this; exact (HE.out.trans this).symm), hb'⟩
        · exact ⟨⟨k+1, by omega, by go_num, by have := HF.out; rw [hq, Bool.true_and] at this; exact HE.out.trans this, hb'⟩, by simp [intOf]; omega⟩
      · go_wp2
        go_ret
        exact ⟨ret_bool (by rw [HE.out, List.drop_of_length_le (by omega), List.drop_of_length_le (by have := HL.out; omega)]; rfl), hb⟩
  · have HN : Hid (x.length ≠ y.length) := by show _ ≠ _; omega
    clear h h'
    go_enter Try.func29, Try.ntmps29
    go_wp2
    go_ret
    exact ⟨ret_bool (sameFsB_len _ _ HN.out).symm, Up.rf w⟩
set_option maxHeartbeats 400000 in
theorem cSameFactsS {v v' : Value} {x y : List FactV} {lo hi lo' hi' : Nat} {w : World} (h : Ob SF w lo hi v x) (h' : Ob SF w lo' hi' v' y) :
    Calls Try.prog 28 #[v, v'] w fun e w' => e = .returned (.bool (sameFsB x y)) ∧ Up w w' := by
  have hlen := h.1.len
  have hlen' := h'.1.len
  obtain ⟨a, cap, rfl⟩ := h.1.form
  obtain ⟨a', cap', rfl⟩ := h'.1.form
  by_cases hl : (x.length : Int) = (y.length : Int)
  · have hl' : y.length = x.length := by omega
    rw [hl'] at h' ⊢
    have HV := Lib.hid h
    have HV' := Lib.hid h'
    have HL := Lib.hid hl'
    clear h h' hl hl' hlen'
    go_enter Try.func28, Try.ntmps28
    go_wp2
    go_loopw [5] (fun i wr => ∃ (k : Nat), k ≤ x.length ∧ i = .int .i64 k ∧ Hid (sameFsB x y = sameFsB (x.drop k) (y.drop k)) ∧ Up w wr) (fun i _ => x.length - (intOf i).toNat)
    case atStart => exact ⟨0, Nat.zero_le _, rfl, rfl, Up.rf w⟩
    case round =>
      obtain ⟨k, hk, rfl, HE, hb⟩ := hrel
      by_cases hlt : k < x.length
      · have hlt' : k < y.length := by have := HL.out; omega
        obtain ⟨b, off, d, c, rfl, c0, c1, hA⟩ := SF.at (HV.out.up hb).1 hlt
        obtain ⟨b', off', d', c', rfl, d0, d1, hA'⟩ := SF.at (HV'.out.up hb).1 hlt'
        have HO : Hid (Ob AF wr lo hi (.agg #[.string x[k].rel, .slice d x[k].args.length c]) x[k]) := ⟨hA, Nat.le_trans HV.out.2 hb.size⟩
        have HO' : Hid (Ob AF wr lo' hi' (.agg #[.string y[k].rel, .slice d' y[k].args.length c']) y[k]) := ⟨hA', Nat.le_trans HV'.out.2 hb.size⟩
        have HF := Lib.hid (sameFsB_drop k x y hlt hlt')
        clear hA hA'
        have i1 : (0 : Int) ≤ (k : Int) := by omega
        have i2 : (k : Int) < (x.length : Int) := by omega
        cases hq : sameFB x[k] y[k]
        all_goals
          go_wp2_with fail
          go_region_held3 (fun w' => w'.cell? ⟨b, off + k * 2, none⟩ = some (.string x[k].rel) ∧ w'.cell? ⟨b, off + k * 2 + 1, none⟩ = some (.slice d x[k].args.length c) ∧ w'.cell? ⟨b', off' + k * 2, none⟩ = some (.string y[k].rel) ∧ w'.cell? ⟨b', off' + k * 2 + 1, none⟩ = some (.slice d' y[k].args.length c') ∧ Up wr w')
            (first | exact ⟨c0, c1, d0, d1, (Up.rf _).dr⟩ | (have hh := ‹_ ∧ _ ∧ _ ∧ _ ∧ _›; have hb := ‹Up _ _›; exact ⟨keepCell hb hh.1, keepCell hb hh.2.1, keepCell hb hh.2.2.1, keepCell hb hh.2.2.2.1, hh.2.2.2.2.tr hb⟩))
            (first | (go_at_call 67; have hh := ‹_ ∧ _ ∧ _ ∧ _ ∧ _›; (with_reducible refine (cSameFactS (HO.out.up hh.2.2.2.2) (HO'.out.up hh.2.2.2.2)).mono ?_); clear hh; rintro e w1 ⟨rfl, b1⟩; rw [hq]))
          have hb' : Up w w1 := hb.dr.tr b1
          clear b1 hb c0 c1 d0 d1
          go_wp2
        · go_ret
          exact ⟨ret_bool (by have := HF.out; rw [hq, Bool.false_and] at this; exact (HE.out.trans this).symm), hb'⟩
        · exact ⟨⟨k+1, by omega, by go_num, by have := HF.out; rw [hq, Bool.true_and] at this; exact HE.out.trans this, hb'⟩, by simp [intOf]; omega⟩
      · go_wp2
        go_ret
        exact ⟨ret_bool (by rw [HE.out, List.drop_of_length_le (by omega), List.drop_of_length_le (by have := HL.out; omega)]; rfl), hb⟩
  · have HN : Hid (x.length ≠ y.length) := by show _ ≠ _; omega
    clear h h'
    go_enter Try.func28, Try.ntmps28
    go_wp2
    go_ret
    exact ⟨ret_bool (sameFsB_len _ _ HN.out).symm, Up.rf w⟩
end Go.Proofs.Ytpbnglpiadfjpaa
