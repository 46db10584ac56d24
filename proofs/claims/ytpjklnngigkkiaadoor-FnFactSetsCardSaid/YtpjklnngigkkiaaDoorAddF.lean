/- AddFact and RemoveFact, the program's and the reference's, as plain functions of the list and the fact; wherever the lengths can be counted. -/
import Derived.Deep.AppendLies
import Derived.Test.YtpjklnngigkkiaaDoorAreF
import Derived.Test.YtpjklnngigkkiaaDoorPut3
import Derived.Test.YtpjklnngigkkiaaDoorPut2
import Derived.Test.YtpjklnngigkkiaaDoorFindF
import Derived.Test.YtpjklnngigkkiaaDoorExt
import Derived.Test.YtpjklnngigkkiaaDoorRg
namespace Go.Proofs.YtpjklnngigkkiaaDoor
open Go.RowKit
attribute [local go_sem ↓] Go.wp_at_zero Go.wp_at_succ
set_option linter.unusedVariables false
set_option linter.unusedSimpArgs false
theorem addV_f {x : List FactV} {f : FactV} (h : addOk x f = false) : addV x f = x := by unfold addV; rw [if_neg (by rw [h]; simp)]
theorem addV_t {x : List FactV} {f : FactV} (h : addOk x f = true) : addV x f = putF x f := by unfold addV; rw [if_pos h]
theorem addV_i {x : List FactV} {f : FactV} (h : addOk x f = true) : addV x f = insF x f := by
  rw [addV_t h]
  unfold addOk at h
  simp only [Bool.and_eq_true, decide_eq_true_eq] at h
  exact putF_ins (findB_neg.1 h.2.1)
theorem remV_f {x : List FactV} {f : FactV} (h : remOk x f = false) : remV x f = x := by unfold remV; rw [if_neg (by rw [h]; simp)]
theorem remV_t {x : List FactV} {f : FactV} (h : remOk x f = true) : remV x f = rmF x f := by unfold remV; rw [if_pos h]
theorem addOk_a {x : List FactV} {f : FactV} (h : areFB x = false) : addOk x f = false := by unfold addOk; rw [h]; rfl
theorem addOk_b {x : List FactV} {f : FactV} (h : isFactB f = false) : addOk x f = false := by unfold addOk; rw [h]; simp
theorem addOk_c {x : List FactV} {f : FactV} (h : 0 ≤ findB x f) : addOk x f = false := by unfold addOk; rw [decide_eq_false (show ¬ findB x f < 0 by omega)]; simp
theorem addOk_d {x : List FactV} {f : FactV} (h : ¬ x.length < 24) : addOk x f = false := by unfold addOk; rw [decide_eq_false h]; simp
theorem addOk_t {x : List FactV} {f : FactV} (h1 : areFB x = true) (h2 : isFactB f = true) (h3 : findB x f < 0) (h4 : x.length < 24) : addOk x f = true := by unfold addOk; rw [h1, h2, decide_eq_true h3, decide_eq_true h4]; rfl
theorem remOk_a {x : List FactV} {f : FactV} (h : areFB x = false) : remOk x f = false := by unfold remOk; rw [h]; rfl
theorem remOk_c {x : List FactV} {f : FactV} (h : findB x f < 0) : remOk x f = false := by unfold remOk; rw [decide_eq_false (show ¬ 0 ≤ findB x f by omega)]; simp
theorem remOk_t {x : List FactV} {f : FactV} (h1 : areFB x = true) (h3 : 0 ≤ findB x f) : remOk x f = true := by unfold remOk; rw [h1, decide_eq_true h3]; rfl
theorem areFB_len {x : List FactV} (h : areFB x = true) : x.length ≤ 24 := ((areFB_iff x).1 h).1
theorem fsum_putF (x : List FactV) (f : FactV) : fsum (putF x f) ≤ fsum x + fsz f := by
  induction x with
  | nil => simp [putF, fsum]
  | cons a r ih =>
    unfold putF
    split
    · simp only [fsum]; omega
    · split <;> simp only [fsum] <;> omega
theorem addV_fssz (x : List FactV) (f : FactV) (h1 : fssz x ≤ 1048576) (h2 : fsz f ≤ 1048576) : fssz (addV x f) ≤ 4194304 := by
  have h3 := fsum_putF x f
  have h4 := putF_le x f
  unfold fssz at h1
  unfold addV fssz
  split <;> omega
theorem remV_fssz (x : List FactV) (f : FactV) (h1 : fssz x ≤ 1048576) : fssz (remV x f) ≤ 4194304 := by
  have h3 : fssz (rmF x f) ≤ fssz x := fssz_filter _ x
  unfold remV
  split <;> omega
theorem fssz_take (x : List FactV) (k : Nat) : fssz (x.take k) ≤ fssz x := by
  have h := fsum_take_le x k
  unfold fssz; simp; omega
theorem fssz_drop (x : List FactV) (k : Nat) : fssz (x.drop k) ≤ fssz x := by
  have h : fsum x = fsum (x.take k) + fsum (x.drop k) := by rw [← fsum_append, List.take_append_drop]
  unfold fssz; simp; omega
theorem FRows.append {E : TypeId} {w : World} {lo mid hi : Nat} {vs us : List Value} {A B : List FactV} (h : FRows E w lo mid vs A) (h' : FRows E w mid hi us B) (h1 : lo ≤ mid) (h2 : mid ≤ hi) : FRows E w lo hi (vs ++ us) (A ++ B) := by
  refine ⟨by simp [h.1, h'.1], fun i a b => ?_, fun i j g a b g1 g2 => ?_⟩
  · by_cases hi : i < A.length
    · rw [List.getElem_append_left (by have := h.1; omega), List.getElem_append_left hi]
      exact (h.2.1 i hi (by have := h.1; omega)).mono (Nat.le_refl _) h2
    · have hl := h.1
      have hl' := h'.1
      simp only [List.length_append] at a b
      rw [List.getElem_append_right (by omega), List.getElem_append_right (by omega)]
      simp only [hl]
      exact (h'.2.1 (i - A.length) (by omega) (by omega)).mono h1 (Nat.le_refl _)
  · have hl := h.1
    have hl' := h'.1
    simp only [List.length_append] at a b
    by_cases hi : i < vs.length <;> by_cases hj : j < vs.length
    · rw [List.getElem_append_left hi] at g1; rw [List.getElem_append_left hj] at g2; exact h.2.2 i j g hi hj g1 g2
    · rw [List.getElem_append_left hi] at g1; rw [List.getElem_append_right (by omega)] at g2
      have e1 := (h.2.1 i (by omega) hi).own g1
      have e2 := (h'.2.1 (j - vs.length) (by omega) (by omega)).own g2
      omega
    · rw [List.getElem_append_left hj] at g2; rw [List.getElem_append_right (by omega)] at g1
      have e1 := (h.2.1 j (by omega) hj).own g2
      have e2 := (h'.2.1 (i - vs.length) (by omega) (by omega)).own g1
      omega
    · rw [List.getElem_append_right (by omega)] at g1 g2
      have := h'.2.2 (i - vs.length) (j - vs.length) g (by omega) (by omega) g1 g2
      omega
theorem SO.app2 {E EF : TypeId} {w1 w2 : World} {lo mid : Nat} {v v' : Value} {vs us : List Value} {A B : List FactV} (hne : E ≠ EF) (hA : FRows E w1 lo mid vs A) (hB : FRows E w1 mid w1.heap.size us B) (h1 : lo ≤ mid) (h2 : mid ≤ w1.heap.size) (hown : w1.ownsRow lo EF 2 v A.length (flatF A vs))
    (hown' : w2.ownsRow lo EF 2 v' (A.length + B.length) (flatF A vs ++ flatF B us)) (hg : w1.grownBy w2 v.ownBlock) : SO E EF w2 lo w2.heap.size v' (A ++ B) :=
  SO.mk_ (by rw [flatF_append _ _ _ _ hA.1]; simpa using hown') (fun g hg => (hown'.lt g hg).2) (((hA.append hB h1 h2).grown hne hown hg).mono (Nat.le_refl _) hg.size)
/-- the cells of an owned row, as they are appended -/
theorem owns_news {w : World} {lo size n g cap : Nat} {e : TypeId} {xs : List Value} (h : w.ownsRow lo e size (.slice (some ⟨g, 0, none⟩) n cap) n xs) : ∀ j u, xs[j]? = some u → w.cell? ((⟨g, 0, none⟩ : Addr).add j) = some u := fun j u hj => by
  have hl := h.1
  have hlt : j < xs.length := by
    rcases Nat.lt_or_ge j xs.length with h | h
    · exact h
    · rw [List.getElem?_eq_none h] at hj; cases hj
  have := h.cellAt j (by omega)
  rw [hj] at this
  have e : (⟨g, 0, none⟩ : Addr).add j = ⟨g, j, none⟩ := by
    unfold Addr.add
    split
    · rename_i h0; subst h0; rfl
    · simp
  rw [e]; exact this
theorem FRows.one {E : TypeId} {w : World} {lo hi : Nat} : ∀ {vs : List Value} {L : List FactV}, FRows E w lo hi vs L → ∀ u ∈ flatF L vs, u.oneCell' = true
  | [], [], _, u, hu => by simp [flatF] at hu
  | [], _ :: _, h, _, _ => by have := h.1; simp at this
  | _ :: _, [], h, _, _ => by have := h.1; simp at this
  | v :: s, f :: r, h, u, hu => by
    simp only [flatF, List.mem_cons] at hu
    rcases hu with rfl | rfl | hu
    · rfl
    · obtain ⟨a, c, e⟩ := (h.2.1 0 (by simp) (by simp)).tx.form
      simp only [List.getElem_cons_zero] at e
      rw [e]; rfl
    · exact FRows.one (vs := s) (L := r) ⟨by have := h.1; simpa using this, fun i a b => by have := h.2.1 (i + 1) (by simpa using a) (by simpa using b); simpa using this, fun i j g a b g1 g2 => by have := h.2.2 (i + 1) (j + 1) g (by simpa using a) (by simpa using b) (by simpa using g1) (by simpa using g2); omega⟩ u hu
theorem run_app_zero {P : Program} (w : World) (base : Nat) (t ty e : TypeId) (i : TypeInfo) (size : Nat) (ht : P.underlying t = some (.slice e)) (hi : P.info? e = some i)
    (v : Value) (n : Nat) (xs : List Value) (hown : w.ownsRow base e size v n xs) (a : Option Addr) (c : Nat) : (Builtin.append_ #[t, t] ty #[v, .slice a 0 c]).run P w = .ok v w := by
  rcases hown.2 with ⟨rfl, rfl⟩ | ⟨g, cap, cur, rfl, -, -, hnc, -⟩
  · cases a <;> simp [Builtin.append_, run_underlying ht, sizeOf, typeInfo, hi, Builtin.lenOf, Builtin.firstCells, loadCells, loadCellsFrom, storeCells]
  · cases a <;> simp [Builtin.append_, run_underlying ht, sizeOf, typeInfo, hi, Builtin.lenOf, Builtin.firstCells, hnc, loadCells, loadCellsFrom, storeCells]
theorem yield_app_zero {P : Program} {o : Oper} {a : Act} (s x : Operand) (t : TypeId)
    (ho : o.op = .call { callee := .builtin .append, args := #[s, x], argTypes := #[t, t] })
    (base : Nat) (e : TypeId) (i : TypeInfo) (size : Nat) (ht : P.underlying t = some (.slice e)) (hi : P.info? e = some i)
    (v : Value) (n : Nat) (xs : List Value) (w : World) (hs : a.eval s = v) (hown : w.ownsRow base e size v n xs) (ad : Option Addr) (c : Nat) (hx : a.eval x = .slice ad 0 c) :
    (execOp a.eval o).run P w = .ok (.value v) w := by
  have hrun := run_app_zero (P := P) w base t o.type e i size ht hi v n xs hown ad c
  simp [execOp, ho, resolve, invoke, builtin, hs, hx, hrun, Result.andThen]
set_option maxHeartbeats 4000000 in
set_option maxRecDepth 100000 in
theorem cAddFact {v u : Value} {x : List FactV} {f : FactV} {lo hi lo' hi' : Nat} {w : World} (hT : Tabs w) (h : Ob SF w lo hi v x) (h' : Ob AF w lo' hi' u f) (hz : fssz x ≤ 1048576) (hzf : fsz f ≤ 1048576) :
    Calls Tryd.prog 17 #[v, u] w fun e w' => ∃ v', e = .returned (.tuple #[v', .bool (addOk x f)]) ∧ Ob (SO 9 32) w' w.heap.size w'.heap.size v' (addV x f) ∧ Up w w' := by
  obtain ⟨a, cap, rfl⟩ := h.1.form
  obtain ⟨fa, fc, rfl⟩ := h'.1.form
  have hlen : x.length ≤ 1048576 := by unfold fssz at hz; omega
  have hb0 : Up w (w.alloc (.cells #[.string f.rel, .slice fa f.args.length fc] 32)) := Up.al1 _ _
  have HV := Lib.hid (h.up hb0)
  have HF := Lib.hid (h'.up hb0)
  have HT := Lib.hid (hT.up hb0)
  have KP := Lib.hid (Blk.new w 32 #[.string f.rel, .slice fa f.args.length fc])
  have HB := Lib.hid hb0
  clear h h' hb0 hT
  go_enter Tryd.func17, Tryd.ntmps17
  go_wp2_with fail
  have hw0 : w.heap.size ≤ (w.alloc (.cells #[.string f.rel, .slice fa f.args.length fc] 32)).heap.size := HB.out.size
  generalize (w.alloc (.cells #[.string f.rel, .slice fa f.args.length fc] 32)) = W at *
  refine (cAreFacts HT.out HV.out hz).mono ?_
  rintro e w1 ⟨rfl, b1⟩
  cases hA : areFB x
  · have HE := Lib.hid (addOk_a (f := f) hA)
    clear hA
    go_wp2_with fail
    refine (cCopyFs (HV.out.up b1) hz).mono ?_
    rintro e w9 ⟨v9, rfl, ho, b9⟩
    have hs9 := (b1).size
    have HS : Hid (SO 9 32 w9 w.heap.size w9.heap.size v9 (addV x f)) := by show SO _ _ _ _ _ _ _; rw [addV_f HE.out]; exact ho.1.mono9 (by omega) (Nat.le_refl _)
    have HU := Lib.hid (HB.out.tr ((b1).tr b9))
    clear ho b9 hs9 
    go_wp2
    go_ret2
    exact ⟨_, ret_pb HE.out.symm, ⟨HS.out, Nat.le_refl _⟩, HU.out⟩
  · have k0 := (KP.out.up b1).cell0
    have k1 := (KP.out.up b1).cell1
    have hln := areFB_len hA
    go_wp2_with fail
    refine (cIsFact (HF.out.up b1) hzf).mono ?_
    rintro e w2 ⟨rfl, b2⟩
    have b12 := b1.tr b2
    clear k0 k1
    cases hB : isFactB f
    · have HE := Lib.hid (addOk_b (x := x) hB)
      clear hA hB
      go_wp2_with fail
      refine (cCopyFs (HV.out.up b12) hz).mono ?_
      rintro e w9 ⟨v9, rfl, ho, b9⟩
      have hs9 := (b12).size
      have HS : Hid (SO 9 32 w9 w.heap.size w9.heap.size v9 (addV x f)) := by show SO _ _ _ _ _ _ _; rw [addV_f HE.out]; exact ho.1.mono9 (by omega) (Nat.le_refl _)
      have HU := Lib.hid (HB.out.tr ((b12).tr b9))
      clear ho b9 hs9 
      go_wp2
      go_ret2
      exact ⟨_, ret_pb HE.out.symm, ⟨HS.out, Nat.le_refl _⟩, HU.out⟩
    · have k0 := (KP.out.up b12).cell0
      have k1 := (KP.out.up b12).cell1
      go_wp2_with fail
      refine (cFindFact (HV.out.up b12) (HF.out.up b12)).mono ?_
      rintro e w3 ⟨rfl, b3⟩
      have b13 := b12.tr b3
      clear k0 k1 b12 b1 b2 b3
      by_cases hC : 0 ≤ findB x f
      · have HE := Lib.hid (addOk_c (x := x) (f := f) hC)
        have hd : decide (0 ≤ findB x f) = true := decide_eq_true hC
        clear hA hB hC
        go_wp2_with fail
        refine (cCopyFs (HV.out.up b13) hz).mono ?_
        rintro e w9 ⟨v9, rfl, ho, b9⟩
        have hs9 := (b13).size
        have HS : Hid (SO 9 32 w9 w.heap.size w9.heap.size v9 (addV x f)) := by show SO _ _ _ _ _ _ _; rw [addV_f HE.out]; exact ho.1.mono9 (by omega) (Nat.le_refl _)
        have HU := Lib.hid (HB.out.tr ((b13).tr b9))
        clear ho b9 hs9 
        go_wp2
        go_ret2
        exact ⟨_, ret_pb HE.out.symm, ⟨HS.out, Nat.le_refl _⟩, HU.out⟩
      · have hC2 : findB x f < 0 := by omega
        have hd : decide (0 ≤ findB x f) = false := decide_eq_false hC
        by_cases hD : x.length < 24
        · have HE := Lib.hid (addOk_t hA hB hC2 hD)
          have hd2 : decide ((24 : Int) ≤ (x.length : Int)) = false := decide_eq_false (by omega)
          have k0 := (KP.out.up b13).cell0
          have k1 := (KP.out.up b13).cell1
          clear hA hB hC hC2
          go_wp2_with fail
          refine (cPutFact (HT.out.up b13) (HV.out.up b13) (HF.out.up b13) hz hzf).mono ?_
          rintro e w9 ⟨v9, rfl, ho, b9⟩
          have hs9 := (b13).size
          have HS : Hid (SO 9 32 w9 w.heap.size w9.heap.size v9 (addV x f)) := by show SO _ _ _ _ _ _ _; rw [addV_i HE.out]; exact ho.1.mono9 (by omega) (Nat.le_refl _)
          have HU := Lib.hid (HB.out.tr ((b13).tr b9))
          clear ho b9 hs9 k0 k1
          go_wp2
          go_ret2
          exact ⟨_, ret_pb HE.out.symm, ⟨HS.out, Nat.le_refl _⟩, HU.out⟩
        · have HE := Lib.hid (addOk_d (x := x) (f := f) hD)
          have hd2 : decide ((24 : Int) ≤ (x.length : Int)) = true := decide_eq_true (by omega)
          clear hA hB hC hC2
          go_wp2_with fail
          refine (cCopyFs (HV.out.up b13) hz).mono ?_
          rintro e w9 ⟨v9, rfl, ho, b9⟩
          have hs9 := (b13).size
          have HS : Hid (SO 9 32 w9 w.heap.size w9.heap.size v9 (addV x f)) := by show SO _ _ _ _ _ _ _; rw [addV_f HE.out]; exact ho.1.mono9 (by omega) (Nat.le_refl _)
          have HU := Lib.hid (HB.out.tr ((b13).tr b9))
          clear ho b9 hs9 
          go_wp2
          go_ret2
          exact ⟨_, ret_pb HE.out.symm, ⟨HS.out, Nat.le_refl _⟩, HU.out⟩
set_option maxHeartbeats 4000000 in
set_option maxRecDepth 100000 in
theorem cAddFactS {v u : Value} {x : List FactV} {f : FactV} {lo hi lo' hi' : Nat} {w : World} (h : Ob SF w lo hi v x) (h' : Ob AF w lo' hi' u f) (hz : fssz x ≤ 1048576) (hzf : fsz f ≤ 1048576) :
    Calls Tryd.prog 14 #[v, u] w fun e w' => ∃ v', e = .returned (.tuple #[v', .bool (addOk x f)]) ∧ Ob (SO 9 32) w' w.heap.size w'.heap.size v' (addV x f) ∧ Up w w' := by
  obtain ⟨a, cap, rfl⟩ := h.1.form
  obtain ⟨fa, fc, rfl⟩ := h'.1.form
  have hlen : x.length ≤ 1048576 := by unfold fssz at hz; omega
  have hb0 : Up w (w.alloc (.cells #[.string f.rel, .slice fa f.args.length fc] 32)) := Up.al1 _ _
  have HV := Lib.hid (h.up hb0)
  have HF := Lib.hid (h'.up hb0)
  have KP := Lib.hid (Blk.new w 32 #[.string f.rel, .slice fa f.args.length fc])
  have HB := Lib.hid hb0
  clear h h' hb0
  go_enter Tryd.func14, Tryd.ntmps14
  go_wp2_with fail
  have hw0 : w.heap.size ≤ (w.alloc (.cells #[.string f.rel, .slice fa f.args.length fc] 32)).heap.size := HB.out.size
  generalize (w.alloc (.cells #[.string f.rel, .slice fa f.args.length fc] 32)) = W at *
  refine (cAreFactsS HV.out hz).mono ?_
  rintro e w1 ⟨rfl, b1⟩
  cases hA : areFB x
  · have HE := Lib.hid (addOk_a (f := f) hA)
    clear hA
    go_wp2_with fail
    refine (cCopyFsS (HV.out.up b1) hz).mono ?_
    rintro e w9 ⟨v9, rfl, ho, b9⟩
    have hs9 := (b1).size
    have HS : Hid (SO 9 32 w9 w.heap.size w9.heap.size v9 (addV x f)) := by show SO _ _ _ _ _ _ _; rw [addV_f HE.out]; exact ho.1.mono9 (by omega) (Nat.le_refl _)
    have HU := Lib.hid (HB.out.tr ((b1).tr b9))
    clear ho b9 hs9 
    go_wp2
    go_ret2
    exact ⟨_, ret_pb HE.out.symm, ⟨HS.out, Nat.le_refl _⟩, HU.out⟩
  · have k0 := (KP.out.up b1).cell0
    have k1 := (KP.out.up b1).cell1
    have hln := areFB_len hA
    go_wp2_with fail
    refine (cIsFactS (HF.out.up b1) hzf).mono ?_
    rintro e w2 ⟨rfl, b2⟩
    have b12 := b1.tr b2
    clear k0 k1
    cases hB : isFactB f
    · have HE := Lib.hid (addOk_b (x := x) hB)
      clear hA hB
      go_wp2_with fail
      refine (cCopyFsS (HV.out.up b12) hz).mono ?_
      rintro e w9 ⟨v9, rfl, ho, b9⟩
      have hs9 := (b12).size
      have HS : Hid (SO 9 32 w9 w.heap.size w9.heap.size v9 (addV x f)) := by show SO _ _ _ _ _ _ _; rw [addV_f HE.out]; exact ho.1.mono9 (by omega) (Nat.le_refl _)
      have HU := Lib.hid (HB.out.tr ((b12).tr b9))
      clear ho b9 hs9 
      go_wp2
      go_ret2
      exact ⟨_, ret_pb HE.out.symm, ⟨HS.out, Nat.le_refl _⟩, HU.out⟩
    · have k0 := (KP.out.up b12).cell0
      have k1 := (KP.out.up b12).cell1
      go_wp2_with fail
      refine (cFindFactS (HV.out.up b12) (HF.out.up b12)).mono ?_
      rintro e w3 ⟨rfl, b3⟩
      have b13 := b12.tr b3
      clear k0 k1 b12 b1 b2 b3
      by_cases hC : 0 ≤ findB x f
      · have HE := Lib.hid (addOk_c (x := x) (f := f) hC)
        have hd : decide (0 ≤ findB x f) = true := decide_eq_true hC
        clear hA hB hC
        go_wp2_with fail
        refine (cCopyFsS (HV.out.up b13) hz).mono ?_
        rintro e w9 ⟨v9, rfl, ho, b9⟩
        have hs9 := (b13).size
        have HS : Hid (SO 9 32 w9 w.heap.size w9.heap.size v9 (addV x f)) := by show SO _ _ _ _ _ _ _; rw [addV_f HE.out]; exact ho.1.mono9 (by omega) (Nat.le_refl _)
        have HU := Lib.hid (HB.out.tr ((b13).tr b9))
        clear ho b9 hs9 
        go_wp2
        go_ret2
        exact ⟨_, ret_pb HE.out.symm, ⟨HS.out, Nat.le_refl _⟩, HU.out⟩
      · have hC2 : findB x f < 0 := by omega
        have hd : decide (0 ≤ findB x f) = false := decide_eq_false hC
        by_cases hD : x.length < 24
        · have HE := Lib.hid (addOk_t hA hB hC2 hD)
          have hd2 : ((x.length : Int) == 24) = false := by rw [beq_eq_false_iff_ne]; omega
          have k0 := (KP.out.up b13).cell0
          have k1 := (KP.out.up b13).cell1
          clear hA hB hC hC2
          go_wp2_with fail
          refine (cl2Put (HV.out.up b13) (HF.out.up b13) hz hzf).mono ?_
          rintro e w9 ⟨v9, rfl, ho, b9⟩
          have hs9 := (b13).size
          have HS : Hid (SO 9 32 w9 w.heap.size w9.heap.size v9 (addV x f)) := by show SO _ _ _ _ _ _ _; rw [addV_t HE.out]; exact ho.1.mono9 (by omega) (Nat.le_refl _)
          have HU := Lib.hid (HB.out.tr ((b13).tr b9))
          clear ho b9 hs9 k0 k1
          go_wp2
          go_ret2
          exact ⟨_, ret_pb HE.out.symm, ⟨HS.out, Nat.le_refl _⟩, HU.out⟩
        · have HE := Lib.hid (addOk_d (x := x) (f := f) hD)
          have hd2 : ((x.length : Int) == 24) = true := by rw [beq_iff_eq]; omega
          clear hA hB hC hC2
          go_wp2_with fail
          refine (cCopyFsS (HV.out.up b13) hz).mono ?_
          rintro e w9 ⟨v9, rfl, ho, b9⟩
          have hs9 := (b13).size
          have HS : Hid (SO 9 32 w9 w.heap.size w9.heap.size v9 (addV x f)) := by show SO _ _ _ _ _ _ _; rw [addV_f HE.out]; exact ho.1.mono9 (by omega) (Nat.le_refl _)
          have HU := Lib.hid (HB.out.tr ((b13).tr b9))
          clear ho b9 hs9 
          go_wp2
          go_ret2
          exact ⟨_, ret_pb HE.out.symm, ⟨HS.out, Nat.le_refl _⟩, HU.out⟩
set_option maxHeartbeats 4000000 in
set_option maxRecDepth 100000 in
theorem cRemFactS {v u : Value} {x : List FactV} {f : FactV} {lo hi lo' hi' : Nat} {w : World} (h : Ob SF w lo hi v x) (h' : Ob AF w lo' hi' u f) (hz : fssz x ≤ 1048576) (hzf : fsz f ≤ 1048576) :
    Calls Tryd.prog 50 #[v, u] w fun e w' => ∃ v', e = .returned (.tuple #[v', .bool (remOk x f)]) ∧ Ob (SO 9 32) w' w.heap.size w'.heap.size v' (remV x f) ∧ Up w w' := by
  obtain ⟨a, cap, rfl⟩ := h.1.form
  obtain ⟨fa, fc, rfl⟩ := h'.1.form
  have hlen : x.length ≤ 1048576 := by unfold fssz at hz; omega
  have hb0 : Up w (w.alloc (.cells #[.string f.rel, .slice fa f.args.length fc] 32)) := Up.al1 _ _
  have HV := Lib.hid (h.up hb0)
  have HF := Lib.hid (h'.up hb0)
  have KP := Lib.hid (Blk.new w 32 #[.string f.rel, .slice fa f.args.length fc])
  have HB := Lib.hid hb0
  clear h h' hb0
  go_enter Tryd.func50, Tryd.ntmps50
  go_wp2_with fail
  have hw0 : w.heap.size ≤ (w.alloc (.cells #[.string f.rel, .slice fa f.args.length fc] 32)).heap.size := HB.out.size
  generalize (w.alloc (.cells #[.string f.rel, .slice fa f.args.length fc] 32)) = W at *
  refine (cAreFactsS HV.out hz).mono ?_
  rintro e w1 ⟨rfl, b1⟩
  cases hA : areFB x
  · have HE := Lib.hid (remOk_a (f := f) hA)
    clear hA
    go_wp2_with fail
    refine (cCopyFsS (HV.out.up b1) hz).mono ?_
    rintro e w9 ⟨v9, rfl, ho, b9⟩
    have hs9 := (b1).size
    have HS : Hid (SO 9 32 w9 w.heap.size w9.heap.size v9 (remV x f)) := by show SO _ _ _ _ _ _ _; rw [remV_f HE.out]; exact ho.1.mono9 (by omega) (Nat.le_refl _)
    have HU := Lib.hid (HB.out.tr ((b1).tr b9))
    clear ho b9 hs9 
    go_wp2
    go_ret2
    exact ⟨_, ret_pb HE.out.symm, ⟨HS.out, Nat.le_refl _⟩, HU.out⟩
  · have k0 := (KP.out.up b1).cell0
    have k1 := (KP.out.up b1).cell1
    go_wp2_with fail
    refine (cFindFactS (HV.out.up b1) (HF.out.up b1)).mono ?_
    rintro e w3 ⟨rfl, b3⟩
    have b13 := b1.tr b3
    clear k0 k1 b1 b3
    by_cases hC : findB x f < 0
    · have HE := Lib.hid (remOk_c (x := x) (f := f) hC)
      have hd : decide (findB x f < 0) = true := decide_eq_true hC
      clear hA
      go_wp2_with fail
      refine (cCopyFsS (HV.out.up b13) hz).mono ?_
      rintro e w9 ⟨v9, rfl, ho, b9⟩
      have hs9 := (b13).size
      have HS : Hid (SO 9 32 w9 w.heap.size w9.heap.size v9 (remV x f)) := by show SO _ _ _ _ _ _ _; rw [remV_f HE.out]; exact ho.1.mono9 (by omega) (Nat.le_refl _)
      have HU := Lib.hid (HB.out.tr ((b13).tr b9))
      clear ho b9 hs9 
      go_wp2
      go_ret2
      exact ⟨_, ret_pb HE.out.symm, ⟨HS.out, Nat.le_refl _⟩, HU.out⟩
    · have HE := Lib.hid (remOk_t (f := f) hA (by omega))
      have hd : decide (findB x f < 0) = false := decide_eq_false hC
      have k0 := (KP.out.up b13).cell0
      have k1 := (KP.out.up b13).cell1
      clear hA
      go_wp2_with fail
      refine (cWithout (HV.out.up b13) (HF.out.up b13) hz).mono ?_
      rintro e w9 ⟨v9, rfl, ho, b9⟩
      have hs9 := (b13).size
      have HS : Hid (SO 9 32 w9 w.heap.size w9.heap.size v9 (remV x f)) := by show SO _ _ _ _ _ _ _; rw [remV_t HE.out]; exact ho.1.mono9 (by omega) (Nat.le_refl _)
      have HU := Lib.hid (HB.out.tr ((b13).tr b9))
      clear ho b9 hs9 k0 k1
      go_wp2
      go_ret2
      exact ⟨_, ret_pb HE.out.symm, ⟨HS.out, Nat.le_refl _⟩, HU.out⟩
end Go.Proofs.YtpjklnngigkkiaaDoor
