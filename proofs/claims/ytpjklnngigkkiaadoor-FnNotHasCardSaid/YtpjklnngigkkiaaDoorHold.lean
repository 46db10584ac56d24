/- HoldsTest and HoldsCond, the program's and the reference's, as plain functions of the condition, the binding and the facts. -/
import Derived.Test.YtpjklnngigkkiaaDoorCmp
import Derived.Test.YtpjklnngigkkiaaDoorCond2
import Derived.Test.YtpjklnngigkkiaaDoorMFs
import Derived.Test.YtpjklnngigkkiaaDoorForm
namespace Go.Proofs.YtpjklnngigkkiaaDoor
open Go.RowKit
attribute [local go_sem ↓] Go.wp_at_zero Go.wp_at_succ
set_option linter.unusedVariables false
def testB (k : Int) (l r : ByteArray) : Bool := if k = 3 then l.toList == r.toList else if k = 4 then !(l.toList == r.toList) else (numOk l && numOk r) && decide (numV l < numV r)
def holdsTB (x : CondV) (b : Prs) : Bool := if (isTestB x && isBindB b) && (valOk b x.left && valOk b x.right) then testB x.kind (valS b x.left) (valS b x.right) else false
def holdsCB (x : CondV) (b : Prs) (L : List FactV) : Bool := if isCondB x && isBindB b then (if x.kind = 1 then decide (0 < (mfsF x.pat b L).length) else if x.kind = 2 then decide ((mfsF x.pat b L).length = 0) else holdsTB x b) else false
theorem findP_in {b : Prs} {t s : ByteArray} (h : findP b t = some s) : ∃ k, ∃ hk : k < b.length, b[k].2 = s := by
  unfold findP at h
  rw [Option.map_eq_some_iff] at h
  obtain ⟨p, h1, rfl⟩ := h
  have := List.mem_of_find?_eq_some h1
  obtain ⟨k, hk, e⟩ := List.mem_iff_getElem.1 this
  exact ⟨k, hk, by rw [e]⟩
theorem valS_le {b : Prs} (h : isBindB b = true) (t : ByteArray) : (valS b t).size ≤ 8 := by
  unfold valS valueB
  split
  · rename_i ha; exact (isAtomB_size ha).2
  · split
    · cases hq : findP b t with
      | none => simp [ByteArray.size]
      | some s =>
        obtain ⟨k, hk, rfl⟩ := findP_in hq
        exact (isAtomB_size (isBindB_at h hk).2).2
    · simp [ByteArray.size]
theorem csz_l {x : CondV} (h : csz x ≤ 1048576) : x.left.size ≤ 1048576 ∧ x.right.size ≤ 1048576 ∧ fsz x.pat ≤ 1048576 := by unfold csz at h; omega
set_option maxHeartbeats 2000000 in
theorem cHoldsTest {v vb : Value} {x : CondV} {b : Prs} {lo hi lo' hi' : Nat} {w : World} (hT : Tabs w) (h : Ob AC w lo hi v x) (hb : Ob SP w lo' hi' vb b) (hz : csz x ≤ 1048576) (hzb : psz b ≤ 1048576) :
    Calls Tryd.prog 41 #[v, vb] w fun e w' => e = .returned (.bool (holdsTB x b)) ∧ Up w w' := by
  obtain ⟨a, cap, rfl⟩ := h.1.form
  obtain ⟨zl, zr, zp⟩ := csz_l hz
  have hb0 : Up w (w.alloc (.cells #[.int .i64 x.kind, .string x.pat.rel, .slice a x.pat.args.length cap, .string x.left, .string x.right] 47)) := Up.al1 _ _
  have HF := Lib.hid (h.up hb0)
  have HBd := Lib.hid (hb.up hb0)
  have HK := Lib.hid (Blk.new w 47 #[.int .i64 x.kind, .string x.pat.rel, .slice a x.pat.args.length cap, .string x.left, .string x.right])
  have HB := Lib.hid hb0
  have HT := Lib.hid (hT.up hb0)
  clear h hb hb0 hT
  go_enter Tryd.func41, Tryd.ntmps41
  go_wp2_with fail
  generalize (w.alloc (.cells #[.int .i64 x.kind, .string x.pat.rel, .slice a x.pat.args.length cap, .string x.left, .string x.right] 47)) = W at *
  refine (cIsTest HF.out hz).mono ?_
  rintro e w1 ⟨rfl, b1⟩
  cases h1 : isTestB x
  · have HE : Hid (holdsTB x b = false) := by show _ = _; unfold holdsTB; rw [h1]; rfl
    go_wp2
    go_ret
    exact ⟨ret_bool HE.out.symm, HB.out.tr b1⟩
  · have HBd1 := Lib.hid (HBd.out.up b1)
    go_wp2_with fail
    refine (cIsBinding HBd1.out hzb).mono ?_
    rintro e w2 ⟨rfl, b2⟩
    have b12 := b1.tr b2
    cases h2 : isBindB b
    · have HE : Hid (holdsTB x b = false) := by show _ = _; unfold holdsTB; rw [h2]; simp
      go_wp2
      go_ret
      exact ⟨ret_bool HE.out.symm, HB.out.tr b12⟩
    · have HBd2 := Lib.hid (HBd.out.up b12)
      have c3 : w2.cell? ⟨w.heap.size, 3, none⟩ = some (.string x.left) := (HK.out.up b12).cell 3
      have z1 := valS_le h2 x.left
      have z2 := valS_le h2 x.right
      have z3 : (valS b x.left).size ≤ 1048576 := by omega
      have z4 : (valS b x.right).size ≤ 1048576 := by omega
      clear z1 z2
      go_wp2_with fail
      refine (cValueOf HBd2.out zl).mono ?_
      rintro e w3 ⟨rfl, b3⟩
      have b13 := b12.tr b3
      have HBd3 := Lib.hid (HBd.out.up b13)
      have c4 : w3.cell? ⟨w.heap.size, 4, none⟩ = some (.string x.right) := (HK.out.up b13).cell 4
      clear c3
      go_wp2_with fail
      refine (cValueOf HBd3.out zr).mono ?_
      rintro e w4 ⟨rfl, b4⟩
      have b14 := b13.tr b4
      have HU := Lib.hid (HB.out.tr b14)
      have c0 : w4.cell? ⟨w.heap.size, 0, none⟩ = some (.int .i64 x.kind) := (HK.out.up b14).cell 0
      have HT4 := Lib.hid (HT.out.up b14)
      clear c4 b1 b2 b3 b4 b12 b13 b14
      cases h3 : valOk b x.left
      · have HE : Hid (holdsTB x b = false) := by show _ = _; unfold holdsTB; rw [h3]; simp
        go_wp2
        go_ret
        exact ⟨ret_bool HE.out.symm, HU.out⟩
      · cases h4 : valOk b x.right
        · have HE : Hid (holdsTB x b = false) := by show _ = _; unfold holdsTB; rw [h4]; simp
          go_wp2
          go_ret
          exact ⟨ret_bool HE.out.symm, HU.out⟩
        · have HG : Hid (holdsTB x b = testB x.kind (valS b x.left) (valS b x.right)) := by show _ = _; unfold holdsTB; rw [h1, h2, h3, h4]; rfl
          clear h1 h2 h3 h4
          generalize valS b x.left = l at *
          generalize valS b x.right = r at *
          by_cases k3 : x.kind = 3
          · have HE : Hid (holdsTB x b = (l.toList == r.toList)) := by show _ = _; rw [HG.out]; unfold testB; rw [if_pos k3]
            have d3 : (x.kind == 3) = true := by simp [k3]
            clear k3 HG
            go_wp2
            go_ret
            exact ⟨ret_bool HE.out.symm, HU.out⟩
          · have d3 : (x.kind == 3) = false := by simp [k3]
            by_cases k4 : x.kind = 4
            · have HE : Hid (holdsTB x b = !(l.toList == r.toList)) := by show _ = _; rw [HG.out]; unfold testB; rw [if_neg k3, if_pos k4]
              have d4 : (x.kind == 4) = true := by simp [k4]
              clear k3 k4 HG
              go_wp2
              go_ret
              exact ⟨ret_bool HE.out.symm, HU.out⟩
            · have d4 : (x.kind == 4) = false := by simp [k4]
              have HE : Hid (holdsTB x b = ((numOk l && numOk r) && decide (numV l < numV r))) := by show _ = _; rw [HG.out]; unfold testB; rw [if_neg k3, if_neg k4]
              clear k3 k4 HG
              go_wp2_with fail
              refine (cParseInt HT4.out z3).mono ?_
              rintro e w5 ⟨rfl, b5⟩
              have HT5 := Lib.hid (HT4.out.up b5)
              clear c0
              go_wp2_with fail
              refine (cParseInt HT5.out z4).mono ?_
              rintro e w6 ⟨rfl, b6⟩
              have HU6 := Lib.hid (HU.out.tr (b5.tr b6))
              clear b5 b6
              cases h5 : numOk l <;> cases h6 : numOk r
              all_goals
                rw [h5, h6] at HE
                clear h5 h6
                go_wp2
                go_ret
                exact ⟨ret_bool HE.out.symm, HU6.out⟩
set_option maxHeartbeats 2000000 in
theorem cHoldsTestS {v vb : Value} {x : CondV} {b : Prs} {lo hi lo' hi' : Nat} {w : World} (h : Ob AC w lo hi v x) (hb : Ob SP w lo' hi' vb b) (hz : csz x ≤ 1048576) (hzb : psz b ≤ 1048576) :
    Calls Tryd.prog 49 #[v, vb] w fun e w' => e = .returned (.bool (holdsTB x b)) ∧ Up w w' := by
  obtain ⟨a, cap, rfl⟩ := h.1.form
  obtain ⟨zl, zr, zp⟩ := csz_l hz
  have hb0 : Up w (w.alloc (.cells #[.int .i64 x.kind, .string x.pat.rel, .slice a x.pat.args.length cap, .string x.left, .string x.right] 47)) := Up.al1 _ _
  have HF := Lib.hid (h.up hb0)
  have HBd := Lib.hid (hb.up hb0)
  have HK := Lib.hid (Blk.new w 47 #[.int .i64 x.kind, .string x.pat.rel, .slice a x.pat.args.length cap, .string x.left, .string x.right])
  have HB := Lib.hid hb0
  clear h hb hb0
  go_enter Tryd.func49, Tryd.ntmps49
  go_wp2_with fail
  generalize (w.alloc (.cells #[.int .i64 x.kind, .string x.pat.rel, .slice a x.pat.args.length cap, .string x.left, .string x.right] 47)) = W at *
  refine (cIsTestS HF.out hz).mono ?_
  rintro e w1 ⟨rfl, b1⟩
  cases h1 : isTestB x
  · have HE : Hid (holdsTB x b = false) := by show _ = _; unfold holdsTB; rw [h1]; rfl
    go_wp2
    go_ret
    exact ⟨ret_bool HE.out.symm, HB.out.tr b1⟩
  · have HBd1 := Lib.hid (HBd.out.up b1)
    go_wp2_with fail
    refine (cIsBindingS HBd1.out hzb).mono ?_
    rintro e w2 ⟨rfl, b2⟩
    have b12 := b1.tr b2
    cases h2 : isBindB b
    · have HE : Hid (holdsTB x b = false) := by show _ = _; unfold holdsTB; rw [h2]; simp
      go_wp2
      go_ret
      exact ⟨ret_bool HE.out.symm, HB.out.tr b12⟩
    · have HBd2 := Lib.hid (HBd.out.up b12)
      have c3 : w2.cell? ⟨w.heap.size, 3, none⟩ = some (.string x.left) := (HK.out.up b12).cell 3
      have z1 := valS_le h2 x.left
      have z2 := valS_le h2 x.right
      have z3 : (valS b x.left).size ≤ 1048576 := by omega
      have z4 : (valS b x.right).size ≤ 1048576 := by omega
      clear z1 z2
      go_wp2_with fail
      refine (cValueOfS HBd2.out zl).mono ?_
      rintro e w3 ⟨rfl, b3⟩
      have b13 := b12.tr b3
      have HBd3 := Lib.hid (HBd.out.up b13)
      have c4 : w3.cell? ⟨w.heap.size, 4, none⟩ = some (.string x.right) := (HK.out.up b13).cell 4
      clear c3
      go_wp2_with fail
      refine (cValueOfS HBd3.out zr).mono ?_
      rintro e w4 ⟨rfl, b4⟩
      have b14 := b13.tr b4
      have HU := Lib.hid (HB.out.tr b14)
      have c0 : w4.cell? ⟨w.heap.size, 0, none⟩ = some (.int .i64 x.kind) := (HK.out.up b14).cell 0
      clear c4 b1 b2 b3 b4 b12 b13 b14
      cases h3 : valOk b x.left
      · have HE : Hid (holdsTB x b = false) := by show _ = _; unfold holdsTB; rw [h3]; simp
        go_wp2
        go_ret
        exact ⟨ret_bool HE.out.symm, HU.out⟩
      · cases h4 : valOk b x.right
        · have HE : Hid (holdsTB x b = false) := by show _ = _; unfold holdsTB; rw [h4]; simp
          go_wp2
          go_ret
          exact ⟨ret_bool HE.out.symm, HU.out⟩
        · have HG : Hid (holdsTB x b = testB x.kind (valS b x.left) (valS b x.right)) := by show _ = _; unfold holdsTB; rw [h1, h2, h3, h4]; rfl
          clear h1 h2 h3 h4
          generalize valS b x.left = l at *
          generalize valS b x.right = r at *
          by_cases k3 : x.kind = 3
          · have HE : Hid (holdsTB x b = (l.toList == r.toList)) := by show _ = _; rw [HG.out]; unfold testB; rw [if_pos k3]
            have d3 : (x.kind == 3) = true := by simp [k3]
            clear k3 HG
            go_wp2
            go_ret
            exact ⟨ret_bool HE.out.symm, HU.out⟩
          · have d3 : (x.kind == 3) = false := by simp [k3]
            by_cases k4 : x.kind = 4
            · have HE : Hid (holdsTB x b = !(l.toList == r.toList)) := by show _ = _; rw [HG.out]; unfold testB; rw [if_neg k3, if_pos k4]
              have d4 : (x.kind == 4) = true := by simp [k4]
              clear k3 k4 HG
              go_wp2
              go_ret
              exact ⟨ret_bool HE.out.symm, HU.out⟩
            · have d4 : (x.kind == 4) = false := by simp [k4]
              have HE : Hid (holdsTB x b = ((numOk l && numOk r) && decide (numV l < numV r))) := by show _ = _; rw [HG.out]; unfold testB; rw [if_neg k3, if_neg k4]
              clear k3 k4 HG
              go_wp2_with fail
              refine (cIsNumberS z3).mono ?_
              rintro e w5 ⟨rfl, b5⟩
              clear c0
              have HU5 := Lib.hid (HU.out.tr b5)
              cases h5 : numOk l
              · rw [h5] at HE
                go_wp2
                go_ret
                exact ⟨ret_bool HE.out.symm, HU5.out⟩
              · go_wp2_with fail
                refine (cIsNumberS z4).mono ?_
                rintro e w6 ⟨rfl, b6⟩
                have HU6 := Lib.hid (HU5.out.tr b6)
                clear b5 b6
                cases h6 : numOk r
                · rw [h5, h6] at HE
                  go_wp2
                  go_ret
                  exact ⟨ret_bool HE.out.symm, HU6.out⟩
                · have HC : Hid (holdsTB x b = decide (cmpA l r < 0)) := by
                    show _ = _
                    rw [HE.out, h5, h6]
                    unfold cmpA cmpI
                    rw [h5, h6]
                    simp only [if_true, Bool.true_and]
                    congr 1
                    apply propext
                    split
                    · simp [*]
                    · split <;> simp [*]
                  go_wp2_with fail
                  refine (cCmpAtomsS z3 z4).mono ?_
                  rintro e w7 ⟨rfl, b7⟩
                  have HU7 := Lib.hid (HU6.out.tr b7)
                  clear b7 HE
                  generalize cmpA l r = q at *
                  go_wp2
                  go_ret
                  exact ⟨ret_bool HC.out.symm, HU7.out⟩
set_option maxHeartbeats 2000000 in
theorem cHoldsCond {v vb vl : Value} {x : CondV} {b : Prs} {L : List FactV} {lo hi lo' hi' lo2 hi2 : Nat} {w : World} (hT : Tabs w) (h : Ob AC w lo hi v x) (hb : Ob SP w lo' hi' vb b) (hl : Ob SF w lo2 hi2 vl L) (hz : csz x ≤ 1048576) (hzb : psz b ≤ 1048576) (hzl : fssz L ≤ 1048576) :
    Calls Tryd.prog 25 #[v, vb, vl] w fun e w' => e = .returned (.bool (holdsCB x b L)) ∧ Up w w' := by
  obtain ⟨a, cap, rfl⟩ := h.1.form
  obtain ⟨zl, zr, zp⟩ := csz_l hz
  have hb0 : Up w (w.alloc (.cells #[.int .i64 x.kind, .string x.pat.rel, .slice a x.pat.args.length cap, .string x.left, .string x.right] 47)) := Up.al1 _ _
  have HF := Lib.hid (h.up hb0)
  have HBd := Lib.hid (hb.up hb0)
  have HK := Lib.hid (Blk.new w 47 #[.int .i64 x.kind, .string x.pat.rel, .slice a x.pat.args.length cap, .string x.left, .string x.right])
  have HB := Lib.hid hb0
  have HT := Lib.hid (hT.up hb0)
  have HL := Lib.hid (hl.up hb0)
  have HP := Lib.hid (Ob.pat (h.up hb0))
  have hzp : fsz x.pat ≤ 1048576 := zp
  clear h hb hl hb0 hT
  go_enter Tryd.func25, Tryd.ntmps25
  go_wp2_with fail
  generalize (w.alloc (.cells #[.int .i64 x.kind, .string x.pat.rel, .slice a x.pat.args.length cap, .string x.left, .string x.right] 47)) = W at *
  refine (cIsCond HF.out hz).mono ?_
  rintro e w1 ⟨rfl, b1⟩
  cases h1 : isCondB x
  · have HE : Hid (holdsCB x b L = false) := by show _ = _; unfold holdsCB; rw [h1]; rfl
    go_wp2
    go_ret
    exact ⟨ret_bool HE.out.symm, HB.out.tr b1⟩
  · have HBd1 := Lib.hid (HBd.out.up b1)
    go_wp2_with fail
    refine (cIsBinding HBd1.out hzb).mono ?_
    rintro e w2 ⟨rfl, b2⟩
    have b12 := b1.tr b2
    cases h2 : isBindB b
    · have HE : Hid (holdsCB x b L = false) := by show _ = _; unfold holdsCB; rw [h2]; simp
      go_wp2
      go_ret
      exact ⟨ret_bool HE.out.symm, HB.out.tr b12⟩
    · have HBd2 := Lib.hid (HBd.out.up b12)
      have HL2 := Lib.hid (HL.out.up b12)
      have HP2 := Lib.hid (HP.out.up b12)
      have HF2 := Lib.hid (HF.out.up b12)
      have HU2 := Lib.hid (HB.out.tr b12)
      have HT2 := Lib.hid (HT.out.up b12)
      have c0 : w2.cell? ⟨w.heap.size, 0, none⟩ = some (.int .i64 x.kind) := (HK.out.up b12).cell 0
      have c1 : w2.cell? ⟨w.heap.size, 1, none⟩ = some (.string x.pat.rel) := (HK.out.up b12).cell 1
      have c2 : w2.cell? ⟨w.heap.size, 2, none⟩ = some (.slice a x.pat.args.length cap) := (HK.out.up b12).cell 2
      have c3 : w2.cell? ⟨w.heap.size, 3, none⟩ = some (.string x.left) := (HK.out.up b12).cell 3
      have c4 : w2.cell? ⟨w.heap.size, 4, none⟩ = some (.string x.right) := (HK.out.up b12).cell 4
      have HG : Hid (holdsCB x b L = (if x.kind = 1 then decide (0 < (mfsF x.pat b L).length) else if x.kind = 2 then decide ((mfsF x.pat b L).length = 0) else holdsTB x b)) := by show _ = _; unfold holdsCB; rw [h1, h2]; rfl
      clear b1 b2 b12 h1 h2
      by_cases k1 : x.kind = 1
      · have d1 : (x.kind == 1) = true := by simp [k1]
        have HE : Hid (holdsCB x b L = decide (0 < (mfsF x.pat b L).length)) := by show _ = _; rw [HG.out, if_pos k1]
        go_wp2_with fail
        refine (cMatchFs HP2.out HBd2.out HL2.out hzp hzb hzl).mono ?_
        rintro e w3 ⟨u, rfl, ho, b3⟩
        obtain ⟨u1, u2, rfl⟩ := ho.sf.1.form
        have HU3 := Lib.hid (HU2.out.tr b3)
        generalize (mfsF x.pat b L).length = m at *
        clear ho b3 c0 c1 c2 c3 c4
        have hm : (0 : Int) ≤ m := by omega
        go_wp2
        go_ret
        exact ⟨ret_bool (by rw [HE.out]; first | done | (congr 1; apply propext; omega)), HU3.out⟩
      · have d1 : (x.kind == 1) = false := by simp [k1]
        by_cases k2 : x.kind = 2
        · have d2 : (x.kind == 2) = true := by simp [k2]
          have HE : Hid (holdsCB x b L = decide ((mfsF x.pat b L).length = 0)) := by show _ = _; rw [HG.out, if_neg k1, if_pos k2]
          go_wp2_with fail
          refine (cMatchFs HP2.out HBd2.out HL2.out hzp hzb hzl).mono ?_
          rintro e w3 ⟨u, rfl, ho, b3⟩
          obtain ⟨u1, u2, rfl⟩ := ho.sf.1.form
          have HU3 := Lib.hid (HU2.out.tr b3)
          generalize (mfsF x.pat b L).length = m at *
          clear ho b3 c0 c1 c2 c3 c4
          have hm : (0 : Int) ≤ m := by omega
          go_wp2
          go_ret
          exact ⟨ret_bool (by rw [HE.out]; rw [Bool.eq_iff_iff]; simp), HU3.out⟩
        · have d2 : (x.kind == 2) = false := by simp [k2]
          have HE : Hid (holdsCB x b L = holdsTB x b) := by show _ = _; rw [HG.out, if_neg k1, if_neg k2]
          clear k1 k2
          go_wp2_with fail
          refine (cHoldsTest HT2.out HF2.out HBd2.out hz hzb).mono ?_
          rintro e w3 ⟨rfl, b3⟩
          have HU3 := Lib.hid (HU2.out.tr b3)
          clear b3 c0 c1 c2 c3 c4
          go_wp2
          go_ret
          exact ⟨ret_bool HE.out.symm, HU3.out⟩
set_option maxHeartbeats 2000000 in
theorem cHoldsCondS {v vb vl : Value} {x : CondV} {b : Prs} {L : List FactV} {lo hi lo' hi' lo2 hi2 : Nat} {w : World} (h : Ob AC w lo hi v x) (hb : Ob SP w lo' hi' vb b) (hl : Ob SF w lo2 hi2 vl L) (hz : csz x ≤ 1048576) (hzb : psz b ≤ 1048576) (hzl : fssz L ≤ 1048576) :
    Calls Tryd.prog 31 #[v, vb, vl] w fun e w' => e = .returned (.bool (holdsCB x b L)) ∧ Up w w' := by
  obtain ⟨a, cap, rfl⟩ := h.1.form
  obtain ⟨zl, zr, zp⟩ := csz_l hz
  have hb0 : Up w (w.alloc (.cells #[.int .i64 x.kind, .string x.pat.rel, .slice a x.pat.args.length cap, .string x.left, .string x.right] 47)) := Up.al1 _ _
  have HF := Lib.hid (h.up hb0)
  have HBd := Lib.hid (hb.up hb0)
  have HK := Lib.hid (Blk.new w 47 #[.int .i64 x.kind, .string x.pat.rel, .slice a x.pat.args.length cap, .string x.left, .string x.right])
  have HB := Lib.hid hb0
  have HL := Lib.hid (hl.up hb0)
  have HP := Lib.hid (Ob.pat (h.up hb0))
  have hzp : fsz x.pat ≤ 1048576 := zp
  clear h hb hl hb0
  go_enter Tryd.func31, Tryd.ntmps31
  go_wp2_with fail
  generalize (w.alloc (.cells #[.int .i64 x.kind, .string x.pat.rel, .slice a x.pat.args.length cap, .string x.left, .string x.right] 47)) = W at *
  refine (cIsCondS HF.out hz).mono ?_
  rintro e w1 ⟨rfl, b1⟩
  cases h1 : isCondB x
  · have HE : Hid (holdsCB x b L = false) := by show _ = _; unfold holdsCB; rw [h1]; rfl
    go_wp2
    go_ret
    exact ⟨ret_bool HE.out.symm, HB.out.tr b1⟩
  · have HBd1 := Lib.hid (HBd.out.up b1)
    go_wp2_with fail
    refine (cIsBindingS HBd1.out hzb).mono ?_
    rintro e w2 ⟨rfl, b2⟩
    have b12 := b1.tr b2
    cases h2 : isBindB b
    · have HE : Hid (holdsCB x b L = false) := by show _ = _; unfold holdsCB; rw [h2]; simp
      go_wp2
      go_ret
      exact ⟨ret_bool HE.out.symm, HB.out.tr b12⟩
    · have HBd2 := Lib.hid (HBd.out.up b12)
      have HL2 := Lib.hid (HL.out.up b12)
      have HP2 := Lib.hid (HP.out.up b12)
      have HF2 := Lib.hid (HF.out.up b12)
      have HU2 := Lib.hid (HB.out.tr b12)
      have c0 : w2.cell? ⟨w.heap.size, 0, none⟩ = some (.int .i64 x.kind) := (HK.out.up b12).cell 0
      have c1 : w2.cell? ⟨w.heap.size, 1, none⟩ = some (.string x.pat.rel) := (HK.out.up b12).cell 1
      have c2 : w2.cell? ⟨w.heap.size, 2, none⟩ = some (.slice a x.pat.args.length cap) := (HK.out.up b12).cell 2
      have c3 : w2.cell? ⟨w.heap.size, 3, none⟩ = some (.string x.left) := (HK.out.up b12).cell 3
      have c4 : w2.cell? ⟨w.heap.size, 4, none⟩ = some (.string x.right) := (HK.out.up b12).cell 4
      have HG : Hid (holdsCB x b L = (if x.kind = 1 then decide (0 < (mfsF x.pat b L).length) else if x.kind = 2 then decide ((mfsF x.pat b L).length = 0) else holdsTB x b)) := by show _ = _; unfold holdsCB; rw [h1, h2]; rfl
      clear b1 b2 b12 h1 h2
      by_cases k1 : x.kind = 1
      · have d1 : (x.kind == 1) = true := by simp [k1]
        have HE : Hid (holdsCB x b L = decide (0 < (mfsF x.pat b L).length)) := by show _ = _; rw [HG.out, if_pos k1]
        go_wp2_with fail
        refine (cMatchFsS HP2.out HBd2.out HL2.out hzp hzb hzl).mono ?_
        rintro e w3 ⟨u, rfl, ho, b3⟩
        obtain ⟨u1, u2, rfl⟩ := ho.sf.1.form
        have HU3 := Lib.hid (HU2.out.tr b3)
        generalize (mfsF x.pat b L).length = m at *
        clear ho b3 c0 c1 c2 c3 c4
        have hm : (0 : Int) ≤ m := by omega
        go_wp2
        go_ret
        exact ⟨ret_bool (by rw [HE.out]; first | done | (congr 1; apply propext; omega)), HU3.out⟩
      · have d1 : (x.kind == 1) = false := by simp [k1]
        by_cases k2 : x.kind = 2
        · have d2 : (x.kind == 2) = true := by simp [k2]
          have HE : Hid (holdsCB x b L = decide ((mfsF x.pat b L).length = 0)) := by show _ = _; rw [HG.out, if_neg k1, if_pos k2]
          go_wp2_with fail
          refine (cMatchFsS HP2.out HBd2.out HL2.out hzp hzb hzl).mono ?_
          rintro e w3 ⟨u, rfl, ho, b3⟩
          obtain ⟨u1, u2, rfl⟩ := ho.sf.1.form
          have HU3 := Lib.hid (HU2.out.tr b3)
          generalize (mfsF x.pat b L).length = m at *
          clear ho b3 c0 c1 c2 c3 c4
          have hm : (0 : Int) ≤ m := by omega
          go_wp2
          go_ret
          exact ⟨ret_bool (by rw [HE.out]; rw [Bool.eq_iff_iff]; simp), HU3.out⟩
        · have d2 : (x.kind == 2) = false := by simp [k2]
          have HE : Hid (holdsCB x b L = holdsTB x b) := by show _ = _; rw [HG.out, if_neg k1, if_neg k2]
          clear k1 k2
          go_wp2_with fail
          refine (cHoldsTestS HF2.out HBd2.out hz hzb).mono ?_
          rintro e w3 ⟨rfl, b3⟩
          have HU3 := Lib.hid (HU2.out.tr b3)
          clear b3 c0 c1 c2 c3 c4
          go_wp2
          go_ret
          exact ⟨ret_bool HE.out.symm, HU3.out⟩
end Go.Proofs.YtpjklnngigkkiaaDoor
