/- A word with arguments in parentheses, read by the program and by the reference; ParseFact and ParsePattern; wherever the lengths can be counted. -/
import Derived.BigQuiet
import Derived.Test.YtbflhchmaoigdaaDoorSpl
import Derived.Test.YtbflhchmaoigdaaDoorForm
import Derived.Test.YtbflhchmaoigdaaDoorPlT
namespace Go.Proofs.YtbflhchmaoigdaaDoor
open Go.RowKit
attribute [local go_sem ↓] Go.wp_at_zero Go.wp_at_succ
set_option linter.unusedVariables false
def oR (o : Option (ByteArray × List ByteArray)) : ByteArray := match o with | some p => p.1 | none => ⟨#[]⟩
def oA (o : Option (ByteArray × List ByteArray)) : List ByteArray := match o with | some p => p.2 | none => []
theorem cut_len (s sep : List UInt8) : (Lib.cut s sep).1.length ≤ s.length ∧ (Lib.cut s sep).2.1.length ≤ s.length := by
  unfold Lib.cut; split
  · simp; omega
  · simp
theorem callV_0 {s : ByteArray} {b r : List UInt8} (h : Lib.cut s.data.toList [40] = (b, r, false)) : callV s = none := by unfold callV; rw [h]; rfl
theorem callV_1 {s : ByteArray} {b r : List UInt8} (h : Lib.cut s.data.toList [40] = (b, r, true)) (h' : Lib.hasSuffix r [41] = false) : callV s = none := by unfold callV; rw [h]; simp only [h']; rfl
theorem callV_2 {s : ByteArray} {b r : List UInt8} (h : Lib.cut s.data.toList [40] = (b, r, true)) (h' : Lib.hasSuffix r [41] = true) : callV s = some (⟨b.toArray⟩, inV ⟨r.toArray⟩) := by unfold callV; rw [h]; simp only [h']; rfl
theorem inV_0 {B : ByteArray} (h : (B.extract 0 (B.size - 1)).size = 0) : inV B = [] := by unfold inV; rw [if_pos h]
theorem inV_1 {B : ByteArray} (h : (B.extract 0 (B.size - 1)).size ≠ 0) : inV B = spB (B.extract 0 (B.size - 1)) tCo := by unfold inV; rw [if_neg h]
theorem ret_sab {a a' : ByteArray} {v v' : Value} {b b' : Bool} (h : a = a') (h1 : v = v') (h' : b = b') : Ending.returned (.tuple #[.string a, v, .bool b]) = .returned (.tuple #[.string a', v', .bool b']) := by rw [h, h1, h']
theorem suffix_size {r : List UInt8} (h : Lib.hasSuffix r [41] = true) : 1 ≤ r.length := by
  obtain ⟨t, rfl⟩ := suffix_form h; simp
theorem mk_size (l : List UInt8) : (⟨l.toArray⟩ : ByteArray).size = l.length := by simp [ByteArray.size]
set_option maxHeartbeats 1000000 in
theorem cCalled {s : ByteArray} {w : World} (hM : MxL w) (hs : s.size ≤ 1048576) :
    Calls Tryd.prog 83 #[.string s] w fun e w' => ∃ v', e = .returned (.tuple #[.string (oR (callV s)), v', .bool (callV s).isSome]) ∧ Ob (TO 9) w' w.heap.size w'.heap.size v' (oA (callV s)) ∧ Up w w' := by
  have HM := Lib.hid hM
  obtain ⟨m, hm⟩ := hM
  have hcl := (cut_len s.data.toList [40]).2
  rcases hc : Lib.cut s.data.toList [40] with ⟨b, r, f⟩
  rw [hc] at hcl
  have hrl : r.length ≤ 1048576 := Nat.le_trans hcl (by simpa using hs)
  clear hcl
  have HC := Lib.hid hc
  clear hc
  go_enter Tryd.func83, Tryd.ntmps83
  go_wp2_with fail
  refine (Tryd.strings_Cut s ⟨#[40]⟩ m _ (by omega) hm).mono ?_
  rintro e w1 ⟨rfl, n, rfl⟩
  rw [show (⟨#[40]⟩ : ByteArray).data.toList = [40] from rfl, HC.out]
  have HU : Hid (Up w (w.drewN n)) := below_drewN (Up.rf w) n
  generalize w.drewN n = w1 at *
  have HM1 := Lib.hid (HM.out.up HU.out)
  clear hm
  cases f
  · have HE := Lib.hid (callV_0 HC.out)
    go_wp2
    go_ret3
    exact ⟨_, ret_sab (by rw [HE.out]; rfl) rfl (by rw [HE.out]; rfl), ⟨by rw [HE.out]; exact TO.nil_ _ _ _ _, Nat.le_refl _⟩, HU.out⟩
  · go_wp2_with fail
    refine (Tryd.strings_HasSuffix ⟨r.toArray⟩ ⟨#[41]⟩ _ (by rw [mk_size]; omega)).mono ?_
    rintro e w1 ⟨rfl, rfl⟩
    rw [show (⟨r.toArray⟩ : ByteArray).data.toList = r from by simp, show (⟨#[41]⟩ : ByteArray).data.toList = [41] from rfl]
    cases hS : Lib.hasSuffix r [41]
    · have HE := Lib.hid (callV_1 HC.out hS)
      clear hS
      go_wp2
      go_ret3
      exact ⟨_, ret_sab (by rw [HE.out]; rfl) rfl (by rw [HE.out]; rfl), ⟨by rw [HE.out]; exact TO.nil_ _ _ _ _, Nat.le_refl _⟩, HU.out⟩
    · have HE := Lib.hid (callV_2 HC.out hS)
      have hz1 := suffix_size hS
      have hz2 := mk_size r
      clear hS HC
      generalize (⟨r.toArray⟩ : ByteArray) = B at *
      have hB1 : (1 : Int) ≤ B.size := by omega
      have hB2 : B.size ≤ 1048576 := by omega
      clear hz1 hz2 hrl
      have hw : ((B.size : Int) - 1) = ((B.size - 1 : Nat) : Int) := by omega
      by_cases h0 : (B.extract 0 (B.size - 1)).size = 0
      · have HI := Lib.hid (inV_0 h0)
        have hq : ((B.extract 0 (B.size - 1)).toList == ([] : List UInt8)) = true := by rw [sep_t h0, ByteArray.toList_eq]; rfl
        go_wp2_with fail
        go_ret3
        exact ⟨_, ret_sab (by rw [HE.out]; rfl) rfl (by rw [HE.out]; rfl), ⟨by rw [HE.out]; show TO _ _ _ _ _ (inV B); rw [HI.out]; exact TO.nil_ _ _ _ _, Nat.le_refl _⟩, HU.out⟩
      · have HI := Lib.hid (inV_1 h0)
        have hq := sep_f h0
        obtain ⟨m, hm⟩ := HM1.out
        have hl := spB_le (B.extract 0 (B.size - 1)) tCo (by decide)
        have hxs : (B.extract 0 (B.size - 1)).size ≤ 1048576 := by simp; omega
        have HO := Lib.hid (TO.row_ 9 w1 (spB (B.extract 0 (B.size - 1)) tCo) (by omega))
        have HL := Lib.hid (spB_len (B.extract 0 (B.size - 1)) tCo (by decide))
        go_wp2_with fail
        refine (Tryd.strings_Split (B.extract 0 (B.size - 1)) ⟨#[44]⟩ m _ (by omega) hm (by decide)).mono ?_
        rintro e w2 ⟨rfl, hw2⟩
        have HU2 : Hid (Up w w2) := by rw [hw2]; exact HU.out.al _
        have HR : Hid (Ob (TO 9) w2 w.heap.size w2.heap.size (.slice (some ⟨w1.heap.size, 0, none⟩) (Lib.countB (B.extract 0 (B.size - 1)) tCo + 1) (Lib.countB (B.extract 0 (B.size - 1)) tCo + 1)) (inV B)) := by
          have := HO.out
          rw [HL.out] at this
          rw [HI.out, hw2]; exact ⟨this.mono HU.out.size (Nat.le_refl _), Nat.le_refl _⟩
        clear hw2 hm
        rw [show (⟨#[44]⟩ : ByteArray) = tCo from rfl]
        generalize Lib.countB (B.extract 0 (B.size - 1)) tCo = q at *
        go_wp2
        go_ret3
        exact ⟨_, ret_sab (by rw [HE.out]; rfl) rfl (by rw [HE.out]; rfl), by rw [HE.out]; exact HR.out, HU2.out⟩
theorem partV_len {s : ByteArray} (h : (spB s tLp).length ≠ 2) : partV s = none := by
  unfold partV
  cases hq : spB s tLp with
  | nil => rfl
  | cons a r => cases r with
    | nil => rfl
    | cons b r => cases r with
      | nil => rw [hq] at h; simp at h
      | cons c r => rfl
theorem partV_two {s a b : ByteArray} (h : spB s tLp = [a, b]) : partV s = if lastRp b then some (a, inV b) else none := by unfold partV; rw [h]
theorem two_of {L : List ByteArray} (h : L.length = 2) : ∃ a b, L = [a, b] := by
  match L, h with
  | [a, b], _ => exact ⟨a, b, rfl⟩
theorem lastRp_0 {b : ByteArray} (h : b.size = 0) : lastRp b = false := by
  unfold lastRp
  rw [show b.data.toList = [] from List.eq_nil_of_length_eq_zero (by simpa using h)]; rfl
theorem lastRp_s {b : ByteArray} (h : b.size - 1 < b.size) : lastRp b = (b[b.size - 1] == 41) := by
  unfold lastRp
  have e : b.data.toList.getLast? = some b[b.size - 1] := by
    rw [List.getLast?_eq_getElem?]
    have hl : b.data.toList.length = b.size := by simp
    rw [hl, List.getElem?_eq_getElem (by omega)]; rfl
  rw [e]
theorem splitV_sp (s : ByteArray) : splitV s tLp = spB s tLp := by unfold splitV; rw [if_neg (by decide)]
theorem splitV_co (s : ByteArray) : splitV s tCo = spB s tCo := by unfold splitV; rw [if_neg (by decide)]
set_option maxHeartbeats 2000000 in
set_option maxRecDepth 100000 in
theorem cPartsS {s : ByteArray} {w : World} (hs : s.size ≤ 1048576) :
    Calls Tryd.prog 87 #[.string s] w fun e w' => ∃ v', e = .returned (.tuple #[.string (oR (partV s)), v', .bool (partV s).isSome]) ∧ Ob (TO 9) w' w.heap.size w'.heap.size v' (oA (partV s)) ∧ Up w w' := by
  go_enter Tryd.func87, Tryd.ntmps87
  go_wp2_with fail
  refine (cSplitS (s := s) (sep := ⟨#[40]⟩) hs (by decide)).mono ?_
  rintro e w1 ⟨v1, rfl, ho, b1⟩
  rw [show (⟨#[40]⟩ : ByteArray) = tLp from rfl, splitV_sp] at ho
  obtain ⟨a1, q1, rfl⟩ := ho.tx.1.form
  have HO := Lib.hid ho
  have HB := Lib.hid b1
  clear ho b1
  by_cases h2 : (spB s tLp).length = 2
  · obtain ⟨a, b, hab⟩ := two_of h2
    have hza : a.size ≤ 1048576 := Nat.le_trans (spB_mem (s := s) (sep := tLp) (by decide) (by rw [hab]; simp)) hs
    have hzb : b.size ≤ 1048576 := Nat.le_trans (spB_mem (s := s) (sep := tLp) (by decide) (by rw [hab]; simp)) hs
    have HP := Lib.hid (partV_two hab)
    rw [hab] at HO ⊢
    clear h2 hab
    obtain ⟨g, off, rfl, -, -, c0⟩ := HO.out.tx.1.at (k := 0) (by simp)
    obtain ⟨g', off', e9, -, -, c1⟩ := HO.out.tx.1.at (k := 1) (by simp)
    injection e9 with e9; injection e9 with e9a e9b; subst e9a e9b
    simp only [List.getElem_cons_zero, List.getElem_cons_succ, Nat.add_zero] at c0 c1
    have hn : (([a, b] : List ByteArray).length : Int) = 2 := rfl
    simp only [List.length_cons, List.length_nil, Nat.zero_add, Nat.reduceAdd] at *
    by_cases hb0 : b.size = 0
    · have HE : Hid (partV s = none) := by show _ = _; rw [HP.out, lastRp_0 hb0]; rfl
      have hd : ((b.size : Int) == 0) = true := by simp [hb0]
      go_wp2_with fail
      go_quiet (fail)
      go_wp2
      go_ret3
      exact ⟨_, ret_sab (by rw [HE.out]; rfl) rfl (by rw [HE.out]; rfl), ⟨by rw [HE.out]; exact TO.nil_ _ _ _ _, Nat.le_refl _⟩, below_drewN HB.out _⟩
    · have hk : b.size - 1 < b.size := by omega
      have hL := lastRp_s hk
      have hd : ((b.size : Int) == 0) = false := by simp [hb0]
      have hw : ((b.size : Int) - 1) = ((b.size - 1 : Nat) : Int) := by omega
      have hb1 : (1 : Int) ≤ b.size := by omega
      have hby := byte_lt b[b.size - 1]
      cases hr : (b[b.size - 1] == 41)
      · have HE : Hid (partV s = none) := by show _ = _; rw [HP.out, hL, hr]; rfl
        have hq : ((b[b.size - 1].toNat : Int) == 41) = false := by
          have h1 : b[b.size - 1] ≠ 41 := by simpa using hr
          have h2 : (41 : UInt8).toNat = 41 := rfl
          rw [beq_eq_false_iff_ne]; intro e; exact h1 (UInt8.toNat_inj.1 (by omega))
        clear hL hr
        go_wp2_with fail
        go_quiet (fail)
        go_wp2
        go_ret3
        exact ⟨_, ret_sab (by rw [HE.out]; rfl) rfl (by rw [HE.out]; rfl), ⟨by rw [HE.out]; exact TO.nil_ _ _ _ _, Nat.le_refl _⟩, below_drewN HB.out _⟩
      · have HE : Hid (partV s = some (a, inV b)) := by show _ = _; rw [HP.out, hL, hr]; rfl
        have hq : ((b[b.size - 1].toNat : Int) == 41) = true := by
          have h1 : b[b.size - 1] = 41 := by simpa using hr
          rw [h1]; rfl
        clear hL hr
        by_cases h0 : (b.extract 0 (b.size - 1)).size = 0
        · have HI := Lib.hid (inV_0 h0)
          have hq2 : (b.extract 0 (b.size - 1)).toList.isEmpty = true := by rw [sep_t h0, ByteArray.toList_eq]; rfl
          go_wp2_with fail
          go_quiet (fail)
          go_wp2_with fail
          go_quiet (fail)
          go_wp2_with fail
          go_ret3
          refine ⟨_, ret_sab (by rw [HE.out]; rfl) rfl (by rw [HE.out]; rfl), ⟨by rw [HE.out]; show TO _ _ _ _ _ (inV b); rw [HI.out]; exact (TO.made_ _ _).mono (by have := HB.out.size; simp; omega) (Nat.le_refl _), Nat.le_refl _⟩, ?_⟩
          exact Up.al (below_drewN HB.out _) _
        · have HI := Lib.hid (inV_1 h0)
          have hq2 : (b.extract 0 (b.size - 1)).toList.isEmpty = false := by
            have := sep_f h0
            rw [ByteArray.toList_eq] at this ⊢
            cases hx : (b.extract 0 (b.size - 1)).data.toList with
            | nil => rw [hx] at this; cases this
            | cons c r => rfl
          have hxs : (b.extract 0 (b.size - 1)).size ≤ 1048576 := by simp; omega
          go_wp2_with fail
          go_quiet (fail)
          go_wp2_with fail
          go_quiet (fail)
          go_wp2_with fail
          rename_i n1 h1 K1 hK1
          have HB2 : Hid (Up w (w1.drewN (n1 + nq))) := below_drewN HB.out _
          have hw12 : Up w1 (w1.drewN (n1 + nq)) := below_drewN (Up.rf w1) _
          have c0 := keepCell hw12 c0
          clear hw12 c1 h1 hq hq2 hd hw hn
          generalize w1.drewN (n1 + nq) = w2 at *
          have mk : Hid (∀ w', Up w2 w' → w'.cell? ⟨g, off, none⟩ = some (.string a) ∧ Up w2 w') := Lib.hid fun w' hu => ⟨keepCell hu c0, hu⟩
          go_region_held3 (fun w' => w'.cell? ⟨g, off, none⟩ = some (.string a) ∧ Up w2 w')
            (first | (with_reducible exact mk.out _ (Up.rf _).dr) | (with_reducible exact mk.out _ hU))
            (first | (go_at_call 16; have hh := ‹_ ∧ _›; (with_reducible refine (cSplitS hxs (by decide)).mono ?_); rintro e w3 ⟨u, rfl, ho, b3⟩; have HO3 := Lib.hid ho; have hU := hh.2.tr b3; have hs3 := hh.2.size; clear ho))
          all_goals
            clear hh c0 mk hs3
            go_wp2
            go_ret3
            exact ⟨_, ret_sab (by rw [HE.out]; rfl) rfl (by rw [HE.out]; rfl), ⟨by rw [HE.out]; show TO _ _ _ _ _ (inV b); rw [HI.out, ← splitV_co]; exact HO3.out.1.mono (show w.heap.size ≤ w2.heap.size from HB2.out.size) (Nat.le_refl _), Nat.le_refl _⟩, HB2.out.tr hU⟩
  · have HE := Lib.hid (partV_len h2)
    generalize (spB s tLp).length = q at *
    have hn : ((q : Int) == 2) = false := by rw [beq_eq_false_iff_ne]; omega
    have hn2 : ((q : Int) != 2) = true := by simp [hn, bne]
    have hn3 : ¬ (q : Int) = 2 := by omega
    go_wp2_with fail
    go_quiet (fail)
    go_wp2
    go_ret3
    exact ⟨_, ret_sab (by rw [HE.out]; rfl) rfl (by rw [HE.out]; rfl), ⟨by rw [HE.out]; exact TO.nil_ _ _ _ _, Nat.le_refl _⟩, below_drewN HB.out _⟩
end Go.Proofs.YtbflhchmaoigdaaDoor
