/- FormatCond, the program's and the reference's; wherever the lengths can be counted, and the program's list of signs holds what start-up lays. -/
import Derived.BigQuiet
import Derived.Test.YtjaifoeagocapaaDoorForm
import Derived.Test.YtjaifoeagocapaaDoorPlK
import Derived.Test.YtjaifoeagocapaaDoorIsBind
import Derived.Test.YtjaifoeagocapaaDoorRows
import Derived.Lib.LaidTab
import Derived.LaidSub
import Derived.LaidMore
namespace Go.Proofs.YtjaifoeagocapaaDoor
open Go.RowKit
attribute [local go_sem ↓] Go.wp_at_zero Go.wp_at_succ
set_option linter.unusedVariables false
/-- the program's list of signs, as start-up lays it -/
def TsT (w : World) : Prop := w.cell? ⟨0, 0, none⟩ = some (.string sg3) ∧ w.cell? ⟨0, 1, none⟩ = some (.string sg4) ∧ w.cell? ⟨0, 2, none⟩ = some (.string sg5)
theorem TsT.up {w w' : World} (h : TsT w) (hb : Up w w') : TsT w' := ⟨keepCell hb h.1, keepCell hb h.2.1, keepCell hb h.2.2⟩
theorem cells_of_strs {H : Type} {enc : TypeId × Value → H} {P : Program} {w : World} {base : Nat} {sp : Nat → Bool} {held : Bool} {fuel : Nat} {t e : TypeId} {n : Nat} {cs : List Value} {zs : List (List UInt8)} {p : List MemPlace}
    (ht : P.underlying t = some (.array n e)) (he : P.underlying e = some .string) (hce : P.cellsOf e = 1) (hct : P.cellsOf t = n)
    (h : DataW.trod enc P w base sp held fuel t cs = some (.agg (zs.map fun z => .lit (.string z)), p)) : cs = zs.map fun z => Value.string ⟨z.toArray⟩ := by
  cases fuel with
  | zero => simp [DataW.trod] at h
  | succ fuel =>
    simp only [DataW.trod, ht, hce, hct, Nat.mul_one] at h
    split at h
    · rename_i hl
      obtain ⟨xs, hm, hx⟩ := Option.map_eq_some_iff.1 h
      have hxs : xs.map (·.1) = zs.map fun z => (DataW.lit (.string z) : DataW H) := by
        have := congrArg Prod.fst hx
        simpa using this
      have hxl : xs.length = n := by simpa using Lib.mapM_length hm
      have hzl : zs.length = n := by
        have := congrArg List.length hxs
        simp at this
        omega
      apply List.ext_getElem?
      intro i
      by_cases hi : i < n
      · obtain ⟨b, hb, hf⟩ := Lib.mapM_at hm i i (by simp [hi])
        obtain ⟨z, hc, rfl, -⟩ := DataW.trod_string he hf
        have h1 : cs[i]? = some (.string z) := by
          have := congrArg (·[0]?) hc
          simpa [List.getElem?_take, List.getElem?_drop] using this
        have h2 : (xs.map (·.1))[i]? = some (DataW.lit (.string z.data.toList) : DataW H) := by simp [hb]
        rw [hxs] at h2
        simp only [List.getElem?_map, Option.map_eq_some_iff, DataW.lit.injEq, Lit.string.injEq] at h2
        obtain ⟨z', hz', rfl⟩ := h2
        simp [h1, hz']
      · rw [List.getElem?_eq_none (by omega), List.getElem?_eq_none (by simp; omega)]
    · cases h
theorem tst_of {l : List (String × DataW Unit)} {W : World} (h : laidMetH Tryd.prog l W) (hp : (l.all fun x => x.2.handleName?.isNone) = true)
    (h1 : l.filter (fun x => x.1 == "loop.example/g03015/impl.testSigns") = [("loop.example/g03015/impl.testSigns", Rows.laid_loop_example_g03015_impl_testSigns)]) : TsT W := by
  rw [MakeChecks.laidMetH_plain _ _ _ hp] at h
  have f1 := h.filter (fun x => x.1 == "loop.example/g03015/impl.testSigns")
  rw [h1] at f1
  obtain ⟨ps, ⟨g', t', cs, fuel, p, q, hg', ht', hvar, hd, _, _⟩, _⟩ := f1
  have hg := hg'
  obtain rfl := Option.some.inj ((show Tryd.prog.globalNamed "loop.example/g03015/impl.testSigns" = some 0 by kernel_rfl).symm.trans hg')
  obtain rfl := Option.some.inj ((show (Tryd.prog.globals[0]?).map (·.type) = some 52 by kernel_rfl).symm.trans ht')
  have hc := cells_of_strs (zs := [[32, 61, 32], [32, 33, 61, 32], [32, 60, 32]]) Tryd.underlying52 Tryd.underlying9 (by kernel_rfl) (by kernel_rfl) hd
  have hcs : cs = #[.string sg3, .string sg4, .string sg5] := by cases cs; simp only at hc; rw [hc]; rfl
  subst hcs
  exact ⟨World.var?_cell hg hvar 0, World.var?_cell hg hvar 1, World.var?_cell hg hvar 2⟩
theorem formP_le (f : FactV) : (formP f).size ≤ 43 := by
  unfold formP; split
  · exact fmtF_pat ‹_›
  · simp [ByteArray.size]
theorem sgK_size (k : Int) : (sgK k).size ≤ 4 := by unfold sgK; split; decide; split <;> decide
set_option maxHeartbeats 2000000 in
theorem cFormC {v : Value} {x : CondV} {lo hi : Nat} {w : World} (hT : TsT w) (h : Ob AC w lo hi v x) (hz : csz x ≤ 1048576) :
    Calls Tryd.prog 7 #[v] w fun e w' => e = .returned (.string (formC x)) ∧ Up w w' := by
  obtain ⟨a, cap, rfl⟩ := h.1.form
  have hb0 : Up w (w.alloc (.cells #[.int .i64 x.kind, .string x.pat.rel, .slice a x.pat.args.length cap, .string x.left, .string x.right] 28)) := Up.al1 _ _
  have HF := Lib.hid (h.up hb0)
  have HP := Lib.hid (Ob.pat (h.up hb0))
  have HK := Lib.hid (Blk.new w 28 #[.int .i64 x.kind, .string x.pat.rel, .slice a x.pat.args.length cap, .string x.left, .string x.right])
  have HB := Lib.hid hb0
  have hz' : fsz x.pat ≤ 1048576 := by unfold csz at hz; omega
  have hzl : x.left.size + x.right.size ≤ 1048576 := by unfold csz at hz; omega
  have hfs := formP_le x.pat
  have e4 : (⟨#[110, 111, 116, 32]⟩ : ByteArray).size = 4 := rfl
  have r1 : ∀ W, (Op.stringOp .add ⟨#[110, 111, 116, 32]⟩ (formP x.pat)).run Tryd.prog W = .ok (.string (⟨#[110, 111, 116, 32]⟩ ++ formP x.pat)) W := fun W => run_string_add_sum W _ _ (by omega)
  have HT := Lib.hid (hT.up hb0)
  clear hT
  clear h hb0 hfs e4
  go_enter Tryd.func7, Tryd.ntmps7
  go_wp2_with fail
  generalize (w.alloc (.cells #[.int .i64 x.kind, .string x.pat.rel, .slice a x.pat.args.length cap, .string x.left, .string x.right] 28)) = W at *
  refine (cIsCond HF.out hz).mono ?_
  rintro e w1 ⟨rfl, b1⟩
  have HB1 := Lib.hid (HB.out.tr b1)
  have HP1 := Lib.hid (HP.out.up b1)
  have HT1 := Lib.hid (HT.out.up b1)
  cases h1 : isCondB x
  · have HE : Hid (formC x = ⟨#[]⟩) := by show _ = _; unfold formC; rw [h1]; rfl
    clear b1
    go_wp2
    go_ret
    exact ⟨ret_str HE.out.symm, HB1.out⟩
  · have HG : Hid (formC x = (if x.kind = 1 then formP x.pat else if x.kind = 2 then tNot ++ formP x.pat else x.left ++ sgK x.kind ++ x.right)) := by show _ = _; unfold formC; rw [h1]; rfl
    by_cases k1 : x.kind = 1
    · have HE : Hid (formC x = formP x.pat) := by show _ = _; rw [HG.out, if_pos k1]
      have c0 : w1.cell? ⟨w.heap.size, 0, none⟩ = some (.int .i64 1) := by rw [← k1]; exact (HK.out.up b1).cell 0
      have c1 : w1.cell? ⟨w.heap.size, 1, none⟩ = some (.string x.pat.rel) := (HK.out.up b1).cell 1
      have c2 : w1.cell? ⟨w.heap.size, 2, none⟩ = some (.slice a x.pat.args.length cap) := (HK.out.up b1).cell 2
      have c3 : w1.cell? ⟨w.heap.size, 3, none⟩ = some (.string x.left) := (HK.out.up b1).cell 3
      have c4 : w1.cell? ⟨w.heap.size, 4, none⟩ = some (.string x.right) := (HK.out.up b1).cell 4
      clear b1
      go_wp2_with fail
      clear c0 c1 c2 c3 c4
      refine (cFormP HP1.out hz').mono ?_
      rintro e w2 ⟨rfl, b2⟩
      have HB2 := Lib.hid (HB1.out.tr b2)
      clear b2
      go_wp2
      go_ret
      exact ⟨ret_str HE.out.symm, HB2.out⟩
    · by_cases k2 : x.kind = 2
      · have HE : Hid (formC x = ⟨#[110, 111, 116, 32]⟩ ++ formP x.pat) := by show _ = _; rw [HG.out, if_neg k1, if_pos k2]; rfl
        have c0 : w1.cell? ⟨w.heap.size, 0, none⟩ = some (.int .i64 2) := by rw [← k2]; exact (HK.out.up b1).cell 0
        have c1 : w1.cell? ⟨w.heap.size, 1, none⟩ = some (.string x.pat.rel) := (HK.out.up b1).cell 1
        have c2 : w1.cell? ⟨w.heap.size, 2, none⟩ = some (.slice a x.pat.args.length cap) := (HK.out.up b1).cell 2
        have c3 : w1.cell? ⟨w.heap.size, 3, none⟩ = some (.string x.left) := (HK.out.up b1).cell 3
        have c4 : w1.cell? ⟨w.heap.size, 4, none⟩ = some (.string x.right) := (HK.out.up b1).cell 4
        clear b1
        go_wp2_with fail
        clear c0 c1 c2 c3 c4
        refine (cFormP HP1.out hz').mono ?_
        rintro e w2 ⟨rfl, b2⟩
        have HB2 := Lib.hid (HB1.out.tr b2)
        clear b2
        go_wp2
        go_ret
        exact ⟨ret_str HE.out.symm, HB2.out⟩
      · have hk : x.kind = 3 ∨ x.kind = 4 ∨ x.kind = 5 := (isCond_high h1 k1 k2).1
        have HG2 : Hid (formC x = x.left ++ sgK x.kind ++ x.right) := by show _ = _; rw [HG.out, if_neg k1, if_neg k2]
        clear HG r1
        rcases hk with hk | hk | hk
        · have HE : Hid (formC x = x.left ++ sg3 ++ x.right) := by show _ = _; rw [HG2.out, hk]; rfl
          have c0 : w1.cell? ⟨w.heap.size, 0, none⟩ = some (.int .i64 3) := by rw [← hk]; exact (HK.out.up b1).cell 0
          have c1 : w1.cell? ⟨w.heap.size, 1, none⟩ = some (.string x.pat.rel) := (HK.out.up b1).cell 1
          have c2 : w1.cell? ⟨w.heap.size, 2, none⟩ = some (.slice a x.pat.args.length cap) := (HK.out.up b1).cell 2
          have c3 : w1.cell? ⟨w.heap.size, 3, none⟩ = some (.string x.left) := (HK.out.up b1).cell 3
          have c4 : w1.cell? ⟨w.heap.size, 4, none⟩ = some (.string x.right) := (HK.out.up b1).cell 4
          have z4 : (sg3).size = 3 := rfl
          have r1 : ∀ W, (Op.stringOp .add x.left sg3).run Tryd.prog W = .ok (.string (x.left ++ sg3)) W := fun W => run_string_add_sum W _ _ (by omega)
          have r2 : ∀ W, (Op.stringOp .add (x.left ++ sg3) x.right).run Tryd.prog W = .ok (.string (x.left ++ sg3 ++ x.right)) W := fun W => run_string_add_sum W _ _ (by rw [ByteArray.size_append]; omega)
          clear b1 HG2 k1 k2 hk z4
          obtain ⟨t0, t1, t2⟩ := HT1.out
          go_wp2_with fail
          go_quiet (fail)
          go_wp2
          go_ret
          exact ⟨ret_str HE.out.symm, below_drewN HB1.out _⟩
        · have HE : Hid (formC x = x.left ++ sg4 ++ x.right) := by show _ = _; rw [HG2.out, hk]; rfl
          have c0 : w1.cell? ⟨w.heap.size, 0, none⟩ = some (.int .i64 4) := by rw [← hk]; exact (HK.out.up b1).cell 0
          have c1 : w1.cell? ⟨w.heap.size, 1, none⟩ = some (.string x.pat.rel) := (HK.out.up b1).cell 1
          have c2 : w1.cell? ⟨w.heap.size, 2, none⟩ = some (.slice a x.pat.args.length cap) := (HK.out.up b1).cell 2
          have c3 : w1.cell? ⟨w.heap.size, 3, none⟩ = some (.string x.left) := (HK.out.up b1).cell 3
          have c4 : w1.cell? ⟨w.heap.size, 4, none⟩ = some (.string x.right) := (HK.out.up b1).cell 4
          have z4 : (sg4).size = 4 := rfl
          have r1 : ∀ W, (Op.stringOp .add x.left sg4).run Tryd.prog W = .ok (.string (x.left ++ sg4)) W := fun W => run_string_add_sum W _ _ (by omega)
          have r2 : ∀ W, (Op.stringOp .add (x.left ++ sg4) x.right).run Tryd.prog W = .ok (.string (x.left ++ sg4 ++ x.right)) W := fun W => run_string_add_sum W _ _ (by rw [ByteArray.size_append]; omega)
          clear b1 HG2 k1 k2 hk z4
          obtain ⟨t0, t1, t2⟩ := HT1.out
          go_wp2_with fail
          go_quiet (fail)
          go_wp2
          go_ret
          exact ⟨ret_str HE.out.symm, below_drewN HB1.out _⟩
        · have HE : Hid (formC x = x.left ++ sg5 ++ x.right) := by show _ = _; rw [HG2.out, hk]; rfl
          have c0 : w1.cell? ⟨w.heap.size, 0, none⟩ = some (.int .i64 5) := by rw [← hk]; exact (HK.out.up b1).cell 0
          have c1 : w1.cell? ⟨w.heap.size, 1, none⟩ = some (.string x.pat.rel) := (HK.out.up b1).cell 1
          have c2 : w1.cell? ⟨w.heap.size, 2, none⟩ = some (.slice a x.pat.args.length cap) := (HK.out.up b1).cell 2
          have c3 : w1.cell? ⟨w.heap.size, 3, none⟩ = some (.string x.left) := (HK.out.up b1).cell 3
          have c4 : w1.cell? ⟨w.heap.size, 4, none⟩ = some (.string x.right) := (HK.out.up b1).cell 4
          have z4 : (sg5).size = 3 := rfl
          have r1 : ∀ W, (Op.stringOp .add x.left sg5).run Tryd.prog W = .ok (.string (x.left ++ sg5)) W := fun W => run_string_add_sum W _ _ (by omega)
          have r2 : ∀ W, (Op.stringOp .add (x.left ++ sg5) x.right).run Tryd.prog W = .ok (.string (x.left ++ sg5 ++ x.right)) W := fun W => run_string_add_sum W _ _ (by rw [ByteArray.size_append]; omega)
          clear b1 HG2 k1 k2 hk z4
          obtain ⟨t0, t1, t2⟩ := HT1.out
          go_wp2_with fail
          go_quiet (fail)
          go_wp2
          go_ret
          exact ⟨ret_str HE.out.symm, below_drewN HB1.out _⟩
end Go.Proofs.YtjaifoeagocapaaDoor
