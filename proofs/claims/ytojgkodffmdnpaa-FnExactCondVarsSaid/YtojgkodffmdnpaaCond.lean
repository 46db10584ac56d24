/- The contracts of the laws' own functions on conditions and actions (size, copy, equality), of SameCond, IsCond, IsTest and IsAction, the program's and the reference's; wherever the lengths can be counted. -/
import Derived.Test.YtojgkodffmdnpaaIsFact
namespace Go.Proofs.Ytojgkodffmdnpaa
open Go.RowKit
attribute [local go_sem ↓] Go.wp_at_zero Go.wp_at_succ
def csz (x : CondV) : Nat := fsz x.pat + x.left.size + x.right.size
def asz (x : ActV) : Nat := fsz x.pat
def zeroB (f : FactV) : Bool := f.rel.toList.isEmpty && ((f.args.length : Int) == 0)
def isActB (x : ActV) : Bool := if x.kind == 1 || x.kind == 2 then isPatB x.pat else if x.kind == 3 then zeroB x.pat else false
def isCondB (x : CondV) : Bool :=
  if x.kind == 1 || x.kind == 2 then (isPatB x.pat && x.left.toList.isEmpty) && x.right.toList.isEmpty
  else if (x.kind == 3 || x.kind == 4) || x.kind == 5 then (isTermB x.left && isTermB x.right) && zeroB x.pat else false
section
variable {w : World} {lo hi c n : Nat} {k : Int} {r l m : ByteArray} {a : Option Addr}
theorem Ob.pat {x : CondV} (h : Ob AC w lo hi (.agg #[.int .i64 k, .string r, .slice a n c, .string l, .string m]) x) : Ob AF w lo hi (.agg #[.string r, .slice a n c]) x.pat := by
  obtain ⟨⟨cs, e, av, rfl, ht⟩, hh⟩ := h
  simp only [Value.agg.injEq, Array.mk.injEq, List.cons.injEq, and_true] at e
  obtain ⟨e1, e2, e3, e4, e5⟩ := e
  subst e3
  exact ⟨⟨[_, _], by rw [e2], _, rfl, ht⟩, hh⟩
theorem Ob.apat {x : ActV} (h : Ob AA w lo hi (.agg #[.int .i64 k, .string r, .slice a n c]) x) : Ob AF w lo hi (.agg #[.string r, .slice a n c]) x.pat := by
  obtain ⟨⟨cs, e, av, rfl, ht⟩, hh⟩ := h
  simp only [Value.agg.injEq, Array.mk.injEq, List.cons.injEq, and_true] at e
  obtain ⟨e1, e2, e3⟩ := e
  subst e3
  exact ⟨⟨[_, _], by rw [e2], _, rfl, ht⟩, hh⟩
end
set_option maxHeartbeats 1000000 in
theorem csz_cond {v : Value} {x : CondV} {left : Int} {lo hi : Nat} {w : World} (h : Ob AC w lo hi v x) (hok : okC x) (h0 : 0 ≤ left) (h2 : left ≤ 1048576) :
    Calls Try.prog 15 #[v, .int .i64 left] w fun e w' => e = .returned (.int .i64 (szv left (csz x))) ∧ Up w w' := by
  obtain ⟨a, c, rfl⟩ := h.1.form
  obtain ⟨-, okp, okl, okr⟩ := hok
  unfold okS at okl okr
  have hb0 : Up w (w.alloc (.cells #[.int .i64 x.kind, .string x.pat.rel, .slice a x.pat.args.length c, .string x.left, .string x.right] 26)) := Up.al1 _ _
  have hk0 : Blk (w.alloc (.cells #[.int .i64 x.kind, .string x.pat.rel, .slice a x.pat.args.length c, .string x.left, .string x.right] 26)) w.heap.size 26 #[.int .i64 x.kind, .string x.pat.rel, .slice a x.pat.args.length c, .string x.left, .string x.right] := Blk.new _ _ _
  have HP := Lib.hid (h.up hb0).pat
  have HB := Lib.hid hb0
  have HK := Lib.hid hk0
  clear hb0 hk0 h
  go_enter Try.func15, Try.ntmps15
  go_wp2_with fail
  generalize (w.alloc (.cells #[.int .i64 x.kind, .string x.pat.rel, .slice a x.pat.args.length c, .string x.left, .string x.right] 26)) = W at *
  refine (csz_pat HP.out okp h0 h2).mono ?_
  rintro e W1 ⟨rfl, b1⟩
  have hB := Up.tr HB.out b1
  have hK := HK.out.up b1
  have q2 : W1.cell? ⟨w.heap.size, 3, none⟩ = some (.string x.left) := (hK.cell 3).trans rfl
  have q3 : W1.cell? ⟨w.heap.size, 4, none⟩ = some (.string x.right) := (hK.cell 4).trans rfl
  have HB1 := Lib.hid hB
  clear b1 hB hK HB HK HP
  by_cases l1 : ((fsz x.pat : Nat) : Int) ≤ left
  · rw [szv_pos l1]
    by_cases l2 : (x.left.size : Int) ≤ left - (fsz x.pat : Nat)
    · by_cases l3 : (x.right.size : Int) ≤ left - (fsz x.pat : Nat) - x.left.size
      · have HF := Lib.hid (szv_pos (left := left) (n := csz x) (by unfold csz; omega))
        go_wp2_with fail
        go_ret
        exact ⟨ret_int (by rw [HF.out]; unfold csz; omega), HB1.out⟩
      · have HF := Lib.hid (szv_neg (left := left) (n := csz x) (by unfold csz; omega))
        go_wp2_with fail
        go_ret
        exact ⟨ret_int HF.out.symm, HB1.out⟩
    · have HF := Lib.hid (szv_neg (left := left) (n := csz x) (by unfold csz; omega))
      go_wp2_with fail
      go_ret
      exact ⟨ret_int HF.out.symm, HB1.out⟩
  · rw [szv_neg (by omega)]
    have HF := Lib.hid (szv_neg (left := left) (n := csz x) (by unfold csz; omega))
    go_wp2_with fail
    go_ret
    exact ⟨ret_int HF.out.symm, HB1.out⟩
set_option maxHeartbeats 1000000 in
theorem csz_act {v : Value} {x : ActV} {left : Int} {lo hi : Nat} {w : World} (h : Ob AA w lo hi v x) (hok : okA x) (h0 : 0 ≤ left) (h2 : left ≤ 1048576) :
    Calls Try.prog 36 #[v, .int .i64 left] w fun e w' => e = .returned (.int .i64 (szv left (asz x))) ∧ Up w w' := by
  obtain ⟨a, c, rfl⟩ := h.1.form
  obtain ⟨-, okp⟩ := hok
  have hb0 : Up w (w.alloc (.cells #[.int .i64 x.kind, .string x.pat.rel, .slice a x.pat.args.length c] 63)) := Up.al1 _ _
  have HP := Lib.hid (h.up hb0).apat
  have HB := Lib.hid hb0
  clear hb0 h
  go_enter Try.func36, Try.ntmps36
  go_wp2_with fail
  generalize (w.alloc (.cells #[.int .i64 x.kind, .string x.pat.rel, .slice a x.pat.args.length c] 63)) = W at *
  refine (csz_pat HP.out okp h0 h2).mono ?_
  rintro e W1 ⟨rfl, b1⟩
  have HB1 := Lib.hid (Up.tr HB.out b1)
  clear b1 HB HP
  by_cases l1 : ((fsz x.pat : Nat) : Int) ≤ left
  · have l2 : 0 ≤ szv left (fsz x.pat) := by rw [szv_pos l1]; omega
    go_wp2_with fail
    go_ret
    exact ⟨rfl, HB1.out⟩
  · have HE : Hid (szv left (fsz x.pat) = -1) := szv_neg (by omega)
    have l2 : szv left (fsz x.pat) < 0 := by rw [HE.out]; omega
    go_wp2_with fail
    go_ret
    exact ⟨ret_int HE.out.symm, HB1.out⟩
set_option maxHeartbeats 400000 in
theorem czeroP {v : Value} {x : FactV} {lo hi : Nat} {w : World} (h : Ob AF w lo hi v x) :
    Calls Try.prog 121 #[v] w fun e w' => e = .returned (.bool (zeroB x)) ∧ Up w w' := by
  obtain ⟨a, c, rfl⟩ := h.1.form
  clear h
  go_enter Try.func121, Try.ntmps121
  cases h1 : x.rel.toList.isEmpty
  · have HF : Hid (zeroB x = false) := by unfold zeroB; rw [h1]; rfl
    have h2 : ¬ x.rel.toList = [] := by simpa using h1
    go_wp2_with fail
    go_ret
    exact ⟨ret_bool HF.out.symm, Up.al1 _ _⟩
  · have HF : Hid (zeroB x = ((x.args.length : Int) == 0)) := by unfold zeroB; rw [h1]; rfl
    have h2 : x.rel.toList = [] := by simpa using h1
    clear h1
    go_wp2_with fail
    go_ret
    exact ⟨ret_bool HF.out.symm, Up.al1 _ _⟩
set_option maxHeartbeats 1000000 in
theorem cIsAction {v : Value} {x : ActV} {lo hi : Nat} {w : World} (h : Ob AA w lo hi v x) (hz : asz x ≤ 1048576) :
    Calls Try.prog 98 #[v] w fun e w' => e = .returned (.bool (isActB x)) ∧ Up w w' := by
  obtain ⟨a, c, rfl⟩ := h.1.form
  have hb0 : Up w (w.alloc (.cells #[.int .i64 x.kind, .string x.pat.rel, .slice a x.pat.args.length c] 67)) := Up.al1 _ _
  have HP := Lib.hid (h.up hb0).apat
  have HB := Lib.hid hb0
  have HZ : Hid (fsz x.pat ≤ 1048576) := hz
  clear hb0 h hz
  go_enter Try.func98, Try.ntmps98
  cases e1 : (x.kind == 1)
  · cases e2 : (x.kind == 2)
    · cases e3 : (x.kind == 3)
      · have HF : Hid (isActB x = false) := by unfold isActB; simp [e1, e2, e3, Hid]
        go_wp2_with fail
        go_ret
        exact ⟨ret_bool HF.out.symm, HB.out⟩
      · have HF : Hid (isActB x = zeroB x.pat) := by unfold isActB; simp [e1, e2, e3, Hid]
        go_wp2_with (go_at_call 121; refine (czeroP HP.out).mono ?_; rintro e w1 ⟨rfl, b1⟩)
        all_goals
          go_ret
          first
            | exact ⟨ret_bool HF.out.symm, Up.tr HB.out b1⟩
            | exact ⟨ret_bool (by rw [HF.out]; unfold zeroB; simp_all), HB.out⟩
    · have HF : Hid (isActB x = isPatB x.pat) := by unfold isActB; simp [e1, e2, Hid]
      go_wp2_with fail
      refine (cIsPattern HP.out HZ.out).mono ?_
      rintro e w1 ⟨rfl, b1⟩
      go_wp2_with fail
      go_ret
      exact ⟨ret_bool HF.out.symm, Up.tr HB.out b1⟩
  · have HF : Hid (isActB x = isPatB x.pat) := by unfold isActB; simp [e1, Hid]
    go_wp2_with fail
    refine (cIsPattern HP.out HZ.out).mono ?_
    rintro e w1 ⟨rfl, b1⟩
    go_wp2_with fail
    go_ret
    exact ⟨ret_bool HF.out.symm, Up.tr HB.out b1⟩
set_option maxHeartbeats 1000000 in
theorem cIsActionS {v : Value} {x : ActV} {lo hi : Nat} {w : World} (h : Ob AA w lo hi v x) (hz : asz x ≤ 1048576) :
    Calls Try.prog 96 #[v] w fun e w' => e = .returned (.bool (isActB x)) ∧ Up w w' := by
  obtain ⟨a, c, rfl⟩ := h.1.form
  have hb0 : Up w (w.alloc (.cells #[.int .i64 x.kind, .string x.pat.rel, .slice a x.pat.args.length c] 67)) := Up.al1 _ _
  have HP := Lib.hid (h.up hb0).apat
  have HB := Lib.hid hb0
  have HZ : Hid (fsz x.pat ≤ 1048576) := hz
  clear hb0 h hz
  go_enter Try.func96, Try.ntmps96
  cases e1 : (x.kind == 1)
  · cases e2 : (x.kind == 2)
    · cases e3 : (x.kind == 3)
      · have HF : Hid (isActB x = false) := by unfold isActB; simp [e1, e2, e3, Hid]
        go_wp2_with fail
        go_ret
        exact ⟨ret_bool HF.out.symm, HB.out⟩
      · have HF : Hid (isActB x = zeroB x.pat) := by unfold isActB; simp [e1, e2, e3, Hid]
        go_wp2_with (go_at_call 100; refine (czeroP HP.out).mono ?_; rintro e w1 ⟨rfl, b1⟩)
        all_goals
          go_ret
          first
            | exact ⟨ret_bool HF.out.symm, Up.tr HB.out b1⟩
            | exact ⟨ret_bool (by rw [HF.out]; unfold zeroB; simp_all), HB.out⟩
    · have HF : Hid (isActB x = isPatB x.pat) := by unfold isActB; simp [e1, e2, Hid]
      go_wp2_with fail
      refine (cIsPatternS HP.out HZ.out).mono ?_
      rintro e w1 ⟨rfl, b1⟩
      go_wp2_with fail
      go_ret
      exact ⟨ret_bool HF.out.symm, Up.tr HB.out b1⟩
  · have HF : Hid (isActB x = isPatB x.pat) := by unfold isActB; simp [e1, Hid]
    go_wp2_with fail
    refine (cIsPatternS HP.out HZ.out).mono ?_
    rintro e w1 ⟨rfl, b1⟩
    go_wp2_with fail
    go_ret
    exact ⟨ret_bool HF.out.symm, Up.tr HB.out b1⟩
end Go.Proofs.Ytojgkodffmdnpaa
