/- The contracts of IsTest and SameCond, the program's and the reference's, and of the laws' own functions that copy and compare conditions and actions; wherever the lengths can be counted. -/
import Derived.Test.YtpkphijfncbbiaaCond
namespace Go.Proofs.Ytpkphijfncbbiaa
open Go.RowKit
attribute [local go_sem ↓] Go.wp_at_zero Go.wp_at_succ
def isTestB (x : CondV) : Bool := isCondB x && decide (3 ≤ x.kind)
def sameCB (x y : CondV) : Bool := ((x.kind == y.kind) && (x.left.toList == y.left.toList)) && ((x.right.toList == y.right.toList) && sameFB x.pat y.pat)
set_option maxHeartbeats 2000000 in
theorem cSameCond {v v' : Value} {x y : CondV} {lo hi lo' hi' : Nat} {w : World} (h : Ob AC w lo hi v x) (h' : Ob AC w lo' hi' v' y) :
    Calls Try.prog 21 #[v, v'] w fun e w' => e = .returned (.bool (sameCB x y)) ∧ Up w w' := by
  obtain ⟨a, c, rfl⟩ := h.1.form
  obtain ⟨b, d, rfl⟩ := h'.1.form
  have hb0 : Up w ((w.alloc (.cells #[.int .i64 x.kind, .string x.pat.rel, .slice a x.pat.args.length c, .string x.left, .string x.right] 43)).alloc (.cells #[.int .i64 y.kind, .string y.pat.rel, .slice b y.pat.args.length d, .string y.left, .string y.right] 43)) := (Up.al1 _ _).al _
  have hk0 : Blk ((w.alloc (.cells #[.int .i64 x.kind, .string x.pat.rel, .slice a x.pat.args.length c, .string x.left, .string x.right] 43)).alloc (.cells #[.int .i64 y.kind, .string y.pat.rel, .slice b y.pat.args.length d, .string y.left, .string y.right] 43)) w.heap.size 43 #[.int .i64 x.kind, .string x.pat.rel, .slice a x.pat.args.length c, .string x.left, .string x.right] := (Blk.new w 43 #[.int .i64 x.kind, .string x.pat.rel, .slice a x.pat.args.length c, .string x.left, .string x.right]).alloc (.cells #[.int .i64 y.kind, .string y.pat.rel, .slice b y.pat.args.length d, .string y.left, .string y.right] 43)
  have hk1 : Blk ((w.alloc (.cells #[.int .i64 x.kind, .string x.pat.rel, .slice a x.pat.args.length c, .string x.left, .string x.right] 43)).alloc (.cells #[.int .i64 y.kind, .string y.pat.rel, .slice b y.pat.args.length d, .string y.left, .string y.right] 43)) (w.heap.size + 1) 43 #[.int .i64 y.kind, .string y.pat.rel, .slice b y.pat.args.length d, .string y.left, .string y.right] := by
    have := Blk.new (w.alloc (.cells #[.int .i64 x.kind, .string x.pat.rel, .slice a x.pat.args.length c, .string x.left, .string x.right] 43)) 43 #[.int .i64 y.kind, .string y.pat.rel, .slice b y.pat.args.length d, .string y.left, .string y.right]
    simpa using this
  have HP := Lib.hid (h.up hb0).pat
  have HP' := Lib.hid (h'.up hb0).pat
  have HB := Lib.hid hb0
  have HK := Lib.hid hk0
  have HK' := Lib.hid hk1
  clear hb0 hk0 hk1 h h'
  go_enter Try.func21, Try.ntmps21
  cases e1 : (x.kind == y.kind)
  · have HF : Hid (sameCB x y = false) := by unfold sameCB; rw [e1]; rfl
    go_wp2_with fail
    go_ret
    exact ⟨ret_bool HF.out.symm, HB.out⟩
  · have e1' : x.kind = y.kind := by simpa using e1
    have HF : Hid (sameCB x y = ((x.left.toList == y.left.toList) && ((x.right.toList == y.right.toList) && sameFB x.pat y.pat))) := by unfold sameCB; rw [e1]; rfl
    clear e1'
    cases e2 : (x.left.toList == y.left.toList) <;> cases e3 : (x.right.toList == y.right.toList)
    all_goals
      go_wp2_with fail
      first
        | (go_ret; exact ⟨ret_bool (by rw [HF.out]; simp_all), HB.out⟩)
        | (generalize ((w.alloc (.cells #[.int .i64 x.kind, .string x.pat.rel, .slice a x.pat.args.length c, .string x.left, .string x.right] 43)).alloc (.cells #[.int .i64 y.kind, .string y.pat.rel, .slice b y.pat.args.length d, .string y.left, .string y.right] 43)) = W at *
           refine (cSamePattern HP.out HP'.out).mono ?_
           rintro e w1 ⟨rfl, b1⟩
           have q0 : w1.cell? ⟨w.heap.size, 3, none⟩ = some (.string x.left) := ((HK.out.up b1).cell 3).trans rfl
           have q1 : w1.cell? ⟨w.heap.size, 4, none⟩ = some (.string x.right) := ((HK.out.up b1).cell 4).trans rfl
           have q2 : w1.cell? ⟨w.heap.size + 1, 3, none⟩ = some (.string y.left) := ((HK'.out.up b1).cell 3).trans rfl
           have q3 : w1.cell? ⟨w.heap.size + 1, 4, none⟩ = some (.string y.right) := ((HK'.out.up b1).cell 4).trans rfl
           have HB1 := Lib.hid (Up.tr HB.out b1)
           clear b1
           go_wp2_with fail
           all_goals (go_ret; exact ⟨ret_bool (by rw [HF.out]; simp_all), HB1.out⟩))
theorem ld_cond (g : Nat) (t : TypeId) (c0 c1 c2 c3 c4 : Value) (W : World) (h : Blk W g t #[c0, c1, c2, c3, c4]) : (loadVar 43 ⟨g, 0, none⟩).run Try.prog W = .ok (.agg #[c0, c1, c2, c3, c4]) W := by
  have q0 : W.cell? ⟨g, 0, none⟩ = some c0 := (h.cell 0).trans rfl
  have q1 : W.cell? ⟨g, 1, none⟩ = some c1 := (h.cell 1).trans rfl
  have q2 : W.cell? ⟨g, 2, none⟩ = some c2 := (h.cell 2).trans rfl
  have q3 : W.cell? ⟨g, 3, none⟩ = some c3 := (h.cell 3).trans rfl
  have q4 : W.cell? ⟨g, 4, none⟩ = some c4 := (h.cell 4).trans rfl
  clear h
  simp [go_sem, q0, q1, q2, q3, q4]
end Go.Proofs.Ytpkphijfncbbiaa
