/- The contracts of IsTest and SameCond, the program's and the reference's, and of the laws' own functions that copy and compare conditions and actions; wherever the lengths can be counted. -/
import Derived.Test.YtojgkodffmdnpaaCond
namespace Go.Proofs.Ytojgkodffmdnpaa
open Go.RowKit
attribute [local go_sem ↓] Go.wp_at_zero Go.wp_at_succ
def isTestB (x : CondV) : Bool := isCondB x && decide (3 ≤ x.kind)
def sameCB (x y : CondV) : Bool := ((x.kind == y.kind) && (x.left.toList == y.left.toList)) && ((x.right.toList == y.right.toList) && sameFB x.pat y.pat)
theorem ld_cond (g : Nat) (t : TypeId) (c0 c1 c2 c3 c4 : Value) (W : World) (h : Blk W g t #[c0, c1, c2, c3, c4]) : (loadVar 32 ⟨g, 0, none⟩).run Try.prog W = .ok (.agg #[c0, c1, c2, c3, c4]) W := by
  have q0 : W.cell? ⟨g, 0, none⟩ = some c0 := (h.cell 0).trans rfl
  have q1 : W.cell? ⟨g, 1, none⟩ = some c1 := (h.cell 1).trans rfl
  have q2 : W.cell? ⟨g, 2, none⟩ = some c2 := (h.cell 2).trans rfl
  have q3 : W.cell? ⟨g, 3, none⟩ = some c3 := (h.cell 3).trans rfl
  have q4 : W.cell? ⟨g, 4, none⟩ = some c4 := (h.cell 4).trans rfl
  clear h
  simp [go_sem, q0, q1, q2, q3, q4]
set_option maxHeartbeats 2000000 in
theorem cto_cond {v : Value} {x : CondV} {lo hi : Nat} {w : World} (h : Ob AC w lo hi v x) (hz : csz x ≤ 1048576) :
    Calls Try.prog 18 #[v] w fun e w' => ∃ v', e = .returned v' ∧ Ob (CO 9) w' w.heap.size w'.heap.size v' x ∧ Up w w' := by
  obtain ⟨a, c, rfl⟩ := h.1.form
  have hzp : fsz x.pat ≤ 1048576 := by unfold csz at hz; omega
  go_enter Try.func18, Try.ntmps18
  go_wp2_with fail
  have hb0 : Up w (((w.alloc (.cells #[.int .i64 x.kind, .string x.pat.rel, .slice a x.pat.args.length c, .string x.left, .string x.right] 26)).alloc (.cells #[.int .i64 0, .string ⟨#[]⟩, .slice none 0 0, .string ⟨#[]⟩, .string ⟨#[]⟩] 32)).alloc (.cells #[.int .i64 x.kind, .string ⟨#[]⟩, .slice none 0 0, .string ⟨#[]⟩, .string ⟨#[]⟩] 32)) := ((Up.al1 _ _).al _).al _
  have k0 : Blk (((w.alloc (.cells #[.int .i64 x.kind, .string x.pat.rel, .slice a x.pat.args.length c, .string x.left, .string x.right] 26)).alloc (.cells #[.int .i64 0, .string ⟨#[]⟩, .slice none 0 0, .string ⟨#[]⟩, .string ⟨#[]⟩] 32)).alloc (.cells #[.int .i64 x.kind, .string ⟨#[]⟩, .slice none 0 0, .string ⟨#[]⟩, .string ⟨#[]⟩] 32)) w.heap.size 26 #[.int .i64 x.kind, .string x.pat.rel, .slice a x.pat.args.length c, .string x.left, .string x.right] := ((Blk.new w 26 #[.int .i64 x.kind, .string x.pat.rel, .slice a x.pat.args.length c, .string x.left, .string x.right]).alloc (.cells #[.int .i64 0, .string ⟨#[]⟩, .slice none 0 0, .string ⟨#[]⟩, .string ⟨#[]⟩] 32)).alloc (.cells #[.int .i64 x.kind, .string ⟨#[]⟩, .slice none 0 0, .string ⟨#[]⟩, .string ⟨#[]⟩] 32)
  have k1 : Blk (((w.alloc (.cells #[.int .i64 x.kind, .string x.pat.rel, .slice a x.pat.args.length c, .string x.left, .string x.right] 26)).alloc (.cells #[.int .i64 0, .string ⟨#[]⟩, .slice none 0 0, .string ⟨#[]⟩, .string ⟨#[]⟩] 32)).alloc (.cells #[.int .i64 x.kind, .string ⟨#[]⟩, .slice none 0 0, .string ⟨#[]⟩, .string ⟨#[]⟩] 32)) (w.heap.size + 1) 32 #[.int .i64 0, .string ⟨#[]⟩, .slice none 0 0, .string ⟨#[]⟩, .string ⟨#[]⟩] := by
    have := (Blk.new (w.alloc (.cells #[.int .i64 x.kind, .string x.pat.rel, .slice a x.pat.args.length c, .string x.left, .string x.right] 26)) 32 #[.int .i64 0, .string ⟨#[]⟩, .slice none 0 0, .string ⟨#[]⟩, .string ⟨#[]⟩]).alloc (.cells #[.int .i64 x.kind, .string ⟨#[]⟩, .slice none 0 0, .string ⟨#[]⟩, .string ⟨#[]⟩] 32)
    simpa using this
  have k2 : Blk (((w.alloc (.cells #[.int .i64 x.kind, .string x.pat.rel, .slice a x.pat.args.length c, .string x.left, .string x.right] 26)).alloc (.cells #[.int .i64 0, .string ⟨#[]⟩, .slice none 0 0, .string ⟨#[]⟩, .string ⟨#[]⟩] 32)).alloc (.cells #[.int .i64 x.kind, .string ⟨#[]⟩, .slice none 0 0, .string ⟨#[]⟩, .string ⟨#[]⟩] 32)) (w.heap.size + 1 + 1) 32 #[.int .i64 x.kind, .string ⟨#[]⟩, .slice none 0 0, .string ⟨#[]⟩, .string ⟨#[]⟩] := by
    have := Blk.new ((w.alloc (.cells #[.int .i64 x.kind, .string x.pat.rel, .slice a x.pat.args.length c, .string x.left, .string x.right] 26)).alloc (.cells #[.int .i64 0, .string ⟨#[]⟩, .slice none 0 0, .string ⟨#[]⟩, .string ⟨#[]⟩] 32)) 32 #[.int .i64 x.kind, .string ⟨#[]⟩, .slice none 0 0, .string ⟨#[]⟩, .string ⟨#[]⟩]
    simpa using this
  generalize (((w.alloc (.cells #[.int .i64 x.kind, .string x.pat.rel, .slice a x.pat.args.length c, .string x.left, .string x.right] 26)).alloc (.cells #[.int .i64 0, .string ⟨#[]⟩, .slice none 0 0, .string ⟨#[]⟩, .string ⟨#[]⟩] 32)).alloc (.cells #[.int .i64 x.kind, .string ⟨#[]⟩, .slice none 0 0, .string ⟨#[]⟩, .string ⟨#[]⟩] 32)) = W3 at *
  have hs : w.heap.size + 3 ≤ W3.heap.size := by have := k2.lt; omega
  refine (cto_pat (h.up hb0).pat hzp).mono ?_
  rintro e w1 ⟨v1, rfl, hv1, b1⟩
  obtain ⟨a1, c1, rfl⟩ := hv1.1.form
  obtain ⟨⟨av1, e1, hv1⟩, -⟩ := hv1
  simp only [Value.agg.injEq, Array.mk.injEq, List.cons.injEq, and_true] at e1
  obtain ⟨-, e1⟩ := e1
  subst e1
  have m0 := k0.up b1
  have m1 := k1.up b1
  have m2 := k2.up b1
  have hB := Up.tr hb0 b1
  have hss := b1.size
  clear k0 k1 k2 hb0 b1 h
  have q0 : w1.cell? ⟨w.heap.size, 3, none⟩ = some (.string x.left) := (m0.cell 3).trans rfl
  have q1 : w1.cell? ⟨w.heap.size, 4, none⟩ = some (.string x.right) := (m0.cell 4).trans rfl
  have p0 : w1.cell? ⟨w.heap.size + 1, 0, none⟩ = some (.int .i64 0) := (m1.cell 0).trans rfl
  have p1 : w1.cell? ⟨w.heap.size + 1, 1, none⟩ = some (.string ⟨#[]⟩) := (m1.cell 1).trans rfl
  have p2 : w1.cell? ⟨w.heap.size + 1, 2, none⟩ = some (.slice none 0 0) := (m1.cell 2).trans rfl
  have p3 : w1.cell? ⟨w.heap.size + 1, 3, none⟩ = some (.string ⟨#[]⟩) := (m1.cell 3).trans rfl
  have p4 : w1.cell? ⟨w.heap.size + 1, 4, none⟩ = some (.string ⟨#[]⟩) := (m1.cell 4).trans rfl
  have r0 : w1.cell? ⟨w.heap.size + 1 + 1, 0, none⟩ = some (.int .i64 x.kind) := (m2.cell 0).trans rfl
  have r1 : w1.cell? ⟨w.heap.size + 1 + 1, 1, none⟩ = some (.string ⟨#[]⟩) := (m2.cell 1).trans rfl
  have r2 : w1.cell? ⟨w.heap.size + 1 + 1, 2, none⟩ = some (.slice none 0 0) := (m2.cell 2).trans rfl
  have r3 : w1.cell? ⟨w.heap.size + 1 + 1, 3, none⟩ = some (.string ⟨#[]⟩) := (m2.cell 3).trans rfl
  have r4 : w1.cell? ⟨w.heap.size + 1 + 1, 4, none⟩ = some (.string ⟨#[]⟩) := (m2.cell 4).trans rfl
  have f0 := m1.frozen 0
  have f1 := m1.frozen 1
  have f2 := m1.frozen 2
  have f3 := m1.frozen 3
  have f4 := m1.frozen 4
  have g1 := m2.frozen 1
  have g2 := m2.frozen 2
  have g3 := m2.frozen 3
  have g4 := m2.frozen 4
  have M0 := Lib.hid m0
  have M1 := Lib.hid m1
  have HB := Lib.hid hB
  have HV := Lib.hid hv1
  clear m0 m1 m2 hB hv1
  go_wp2_with fail
  clear q0 q1 p0 p1 p2 p3 p4 r0 r1 r2 r3 r4 f0 f1 f2 f3 f4 g1 g2 g3 g4
  refine ret_cell (g := w.heap.size + 1) (t := 32) (cs := #[.int .i64 x.kind, .string x.pat.rel, .slice a1 x.pat.args.length c1, .string x.left, .string x.right]) rfl rfl (ld_cond _ _ _ _ _ _ _) ?_ rfl ?_
  · exact (((((((((M1.out.far (by simp) _).far (by simp) _).far (by simp) _).far (by simp) _).set_ 0 _).set_ 1 _).set_ 2 _).set_ 3 _).set_ 4 _)
  · refine ⟨_, rfl, ⟨⟨_, rfl, ?_⟩, Nat.le_refl _⟩, ?_⟩
    · refine (HV.out.keep ((((((((((Stays.refl _ _ _).setCell (.inl ?_) _).setCell (.inl ?_) _).setCell (.inl ?_) _).setCell (.inl ?_) _).setCell (.inl ?_) _).setCell (.inl ?_) _).setCell (.inl ?_) _).setCell (.inl ?_) _).setCell (.inl ?_) _)).mono ?_ ?_
      all_goals first | omega | (simp [World.setCell]; omega) | simp [World.setCell]
    · exact ((((((((HB.out.setCell (by simp; omega) _).setCell (by simp; omega) _).setCell (by simp; omega) _).setCell (by simp; omega) _).setCell (by simp) _).setCell (by simp) _).setCell (by simp) _).setCell (by simp) _).setCell (by simp) _
theorem ld_act (g : Nat) (t : TypeId) (c0 c1 c2 : Value) (W : World) (h : Blk W g t #[c0, c1, c2]) : (loadVar 67 ⟨g, 0, none⟩).run Try.prog W = .ok (.agg #[c0, c1, c2]) W := by
  have q0 : W.cell? ⟨g, 0, none⟩ = some c0 := (h.cell 0).trans rfl
  have q1 : W.cell? ⟨g, 1, none⟩ = some c1 := (h.cell 1).trans rfl
  have q2 : W.cell? ⟨g, 2, none⟩ = some c2 := (h.cell 2).trans rfl
  clear h
  simp [go_sem, q0, q1, q2]
set_option maxHeartbeats 2000000 in
theorem cto_act {v : Value} {x : ActV} {lo hi : Nat} {w : World} (h : Ob AA w lo hi v x) (hz : asz x ≤ 1048576) :
    Calls Try.prog 38 #[v] w fun e w' => ∃ v', e = .returned v' ∧ Ob (AO 9) w' w.heap.size w'.heap.size v' x ∧ Up w w' := by
  obtain ⟨a, c, rfl⟩ := h.1.form
  have hzp : fsz x.pat ≤ 1048576 := hz
  go_enter Try.func38, Try.ntmps38
  go_wp2_with fail
  have hb0 : Up w (((w.alloc (.cells #[.int .i64 x.kind, .string x.pat.rel, .slice a x.pat.args.length c] 63)).alloc (.cells #[.int .i64 0, .string ⟨#[]⟩, .slice none 0 0] 67)).alloc (.cells #[.int .i64 x.kind, .string ⟨#[]⟩, .slice none 0 0] 67)) := ((Up.al1 _ _).al _).al _
  have k1 : Blk (((w.alloc (.cells #[.int .i64 x.kind, .string x.pat.rel, .slice a x.pat.args.length c] 63)).alloc (.cells #[.int .i64 0, .string ⟨#[]⟩, .slice none 0 0] 67)).alloc (.cells #[.int .i64 x.kind, .string ⟨#[]⟩, .slice none 0 0] 67)) (w.heap.size + 1) 67 #[.int .i64 0, .string ⟨#[]⟩, .slice none 0 0] := by
    have := (Blk.new (w.alloc (.cells #[.int .i64 x.kind, .string x.pat.rel, .slice a x.pat.args.length c] 63)) 67 #[.int .i64 0, .string ⟨#[]⟩, .slice none 0 0]).alloc (.cells #[.int .i64 x.kind, .string ⟨#[]⟩, .slice none 0 0] 67)
    simpa using this
  have k2 : Blk (((w.alloc (.cells #[.int .i64 x.kind, .string x.pat.rel, .slice a x.pat.args.length c] 63)).alloc (.cells #[.int .i64 0, .string ⟨#[]⟩, .slice none 0 0] 67)).alloc (.cells #[.int .i64 x.kind, .string ⟨#[]⟩, .slice none 0 0] 67)) (w.heap.size + 1 + 1) 67 #[.int .i64 x.kind, .string ⟨#[]⟩, .slice none 0 0] := by
    have := Blk.new ((w.alloc (.cells #[.int .i64 x.kind, .string x.pat.rel, .slice a x.pat.args.length c] 63)).alloc (.cells #[.int .i64 0, .string ⟨#[]⟩, .slice none 0 0] 67)) 67 #[.int .i64 x.kind, .string ⟨#[]⟩, .slice none 0 0]
    simpa using this
  generalize (((w.alloc (.cells #[.int .i64 x.kind, .string x.pat.rel, .slice a x.pat.args.length c] 63)).alloc (.cells #[.int .i64 0, .string ⟨#[]⟩, .slice none 0 0] 67)).alloc (.cells #[.int .i64 x.kind, .string ⟨#[]⟩, .slice none 0 0] 67)) = W3 at *
  have hs : w.heap.size + 3 ≤ W3.heap.size := by have := k2.lt; omega
  refine (cto_pat (h.up hb0).apat hzp).mono ?_
  rintro e w1 ⟨v1, rfl, hv1, b1⟩
  obtain ⟨a1, c1, rfl⟩ := hv1.1.form
  obtain ⟨⟨av1, e1, hv1⟩, -⟩ := hv1
  simp only [Value.agg.injEq, Array.mk.injEq, List.cons.injEq, and_true] at e1
  obtain ⟨-, e1⟩ := e1
  subst e1
  have m1 := k1.up b1
  have m2 := k2.up b1
  have hB := Up.tr hb0 b1
  have hss := b1.size
  clear k1 k2 hb0 b1 h
  have p0 : w1.cell? ⟨w.heap.size + 1, 0, none⟩ = some (.int .i64 0) := (m1.cell 0).trans rfl
  have p1 : w1.cell? ⟨w.heap.size + 1, 1, none⟩ = some (.string ⟨#[]⟩) := (m1.cell 1).trans rfl
  have p2 : w1.cell? ⟨w.heap.size + 1, 2, none⟩ = some (.slice none 0 0) := (m1.cell 2).trans rfl
  have r0 : w1.cell? ⟨w.heap.size + 1 + 1, 0, none⟩ = some (.int .i64 x.kind) := (m2.cell 0).trans rfl
  have r1 : w1.cell? ⟨w.heap.size + 1 + 1, 1, none⟩ = some (.string ⟨#[]⟩) := (m2.cell 1).trans rfl
  have r2 : w1.cell? ⟨w.heap.size + 1 + 1, 2, none⟩ = some (.slice none 0 0) := (m2.cell 2).trans rfl
  have f0 := m1.frozen 0
  have f1 := m1.frozen 1
  have f2 := m1.frozen 2
  have g1 := m2.frozen 1
  have g2 := m2.frozen 2
  have M1 := Lib.hid m1
  have HB := Lib.hid hB
  have HV := Lib.hid hv1
  clear m1 m2 hB hv1
  go_wp2_with fail
  clear p0 p1 p2 r0 r1 r2 f0 f1 f2 g1 g2
  refine ret_cell (g := w.heap.size + 1) (t := 67) (cs := #[.int .i64 x.kind, .string x.pat.rel, .slice a1 x.pat.args.length c1]) rfl rfl (ld_act _ _ _ _ _) ?_ rfl ?_
  · exact (((((M1.out.far (by simp) _).far (by simp) _).set_ 0 _).set_ 1 _).set_ 2 _)
  · refine ⟨_, rfl, ⟨⟨_, rfl, ?_⟩, Nat.le_refl _⟩, ?_⟩
    · refine (HV.out.keep ((((((Stays.refl _ _ _).setCell (.inl ?_) _).setCell (.inl ?_) _).setCell (.inl ?_) _).setCell (.inl ?_) _).setCell (.inl ?_) _)).mono ?_ ?_
      all_goals first | omega | (simp [World.setCell]; omega) | simp [World.setCell]
    · exact ((((HB.out.setCell (by simp; omega) _).setCell (by simp; omega) _).setCell (by simp) _).setCell (by simp) _).setCell (by simp) _
set_option maxHeartbeats 2000000 in
theorem ceq_cond {v v' : Value} {x : CondV} {lo hi lo' hi' : Nat} {w : World} (h : Ob AC w lo hi v x) (h' : Ob AC w lo' hi' v' x) :
    Calls Try.prog 21 #[v, v'] w fun e w' => e = .returned (.bool true) ∧ Up w w' := by
  obtain ⟨a, c, rfl⟩ := h.1.form
  obtain ⟨b, d, rfl⟩ := h'.1.form
  have hb0 : Up w ((w.alloc (.cells #[.int .i64 x.kind, .string x.pat.rel, .slice a x.pat.args.length c, .string x.left, .string x.right] 32)).alloc (.cells #[.int .i64 x.kind, .string x.pat.rel, .slice b x.pat.args.length d, .string x.left, .string x.right] 32)) := (Up.al1 _ _).al _
  have k0 : Blk ((w.alloc (.cells #[.int .i64 x.kind, .string x.pat.rel, .slice a x.pat.args.length c, .string x.left, .string x.right] 32)).alloc (.cells #[.int .i64 x.kind, .string x.pat.rel, .slice b x.pat.args.length d, .string x.left, .string x.right] 32)) w.heap.size 32 #[.int .i64 x.kind, .string x.pat.rel, .slice a x.pat.args.length c, .string x.left, .string x.right] := (Blk.new w 32 #[.int .i64 x.kind, .string x.pat.rel, .slice a x.pat.args.length c, .string x.left, .string x.right]).alloc (.cells #[.int .i64 x.kind, .string x.pat.rel, .slice b x.pat.args.length d, .string x.left, .string x.right] 32)
  have k1 : Blk ((w.alloc (.cells #[.int .i64 x.kind, .string x.pat.rel, .slice a x.pat.args.length c, .string x.left, .string x.right] 32)).alloc (.cells #[.int .i64 x.kind, .string x.pat.rel, .slice b x.pat.args.length d, .string x.left, .string x.right] 32)) (w.heap.size + 1) 32 #[.int .i64 x.kind, .string x.pat.rel, .slice b x.pat.args.length d, .string x.left, .string x.right] := by
    have := Blk.new (w.alloc (.cells #[.int .i64 x.kind, .string x.pat.rel, .slice a x.pat.args.length c, .string x.left, .string x.right] 32)) 32 #[.int .i64 x.kind, .string x.pat.rel, .slice b x.pat.args.length d, .string x.left, .string x.right]
    simpa using this
  have HP := Lib.hid (h.up hb0).pat
  have HP' := Lib.hid (h'.up hb0).pat
  have HB := Lib.hid hb0
  have K0 := Lib.hid k0
  have K1 := Lib.hid k1
  clear hb0 k0 k1 h h'
  go_enter Try.func21, Try.ntmps21
  go_wp2_with fail
  generalize ((w.alloc (.cells #[.int .i64 x.kind, .string x.pat.rel, .slice a x.pat.args.length c, .string x.left, .string x.right] 32)).alloc (.cells #[.int .i64 x.kind, .string x.pat.rel, .slice b x.pat.args.length d, .string x.left, .string x.right] 32)) = W at *
  refine (ceq_pat HP.out HP'.out).mono ?_
  rintro e w1 ⟨rfl, b1⟩
  have q0 : w1.cell? ⟨w.heap.size, 3, none⟩ = some (.string x.left) := ((K0.out.up b1).cell 3).trans rfl
  have q1 : w1.cell? ⟨w.heap.size, 4, none⟩ = some (.string x.right) := ((K0.out.up b1).cell 4).trans rfl
  have q2 : w1.cell? ⟨w.heap.size + 1, 3, none⟩ = some (.string x.left) := ((K1.out.up b1).cell 3).trans rfl
  have q3 : w1.cell? ⟨w.heap.size + 1, 4, none⟩ = some (.string x.right) := ((K1.out.up b1).cell 4).trans rfl
  have HB1 := Lib.hid (Up.tr HB.out b1)
  clear b1
  go_wp2_with fail
  go_ret
  exact ⟨rfl, HB1.out⟩
set_option maxHeartbeats 2000000 in
theorem ceq_act {v v' : Value} {x : ActV} {lo hi lo' hi' : Nat} {w : World} (h : Ob AA w lo hi v x) (h' : Ob AA w lo' hi' v' x) :
    Calls Try.prog 40 #[v, v'] w fun e w' => e = .returned (.bool true) ∧ Up w w' := by
  obtain ⟨a, c, rfl⟩ := h.1.form
  obtain ⟨b, d, rfl⟩ := h'.1.form
  have hb0 : Up w ((w.alloc (.cells #[.int .i64 x.kind, .string x.pat.rel, .slice a x.pat.args.length c] 67)).alloc (.cells #[.int .i64 x.kind, .string x.pat.rel, .slice b x.pat.args.length d] 67)) := (Up.al1 _ _).al _
  have k0 : Blk ((w.alloc (.cells #[.int .i64 x.kind, .string x.pat.rel, .slice a x.pat.args.length c] 67)).alloc (.cells #[.int .i64 x.kind, .string x.pat.rel, .slice b x.pat.args.length d] 67)) w.heap.size 67 #[.int .i64 x.kind, .string x.pat.rel, .slice a x.pat.args.length c] := (Blk.new w 67 #[.int .i64 x.kind, .string x.pat.rel, .slice a x.pat.args.length c]).alloc (.cells #[.int .i64 x.kind, .string x.pat.rel, .slice b x.pat.args.length d] 67)
  have k1 : Blk ((w.alloc (.cells #[.int .i64 x.kind, .string x.pat.rel, .slice a x.pat.args.length c] 67)).alloc (.cells #[.int .i64 x.kind, .string x.pat.rel, .slice b x.pat.args.length d] 67)) (w.heap.size + 1) 67 #[.int .i64 x.kind, .string x.pat.rel, .slice b x.pat.args.length d] := by
    have := Blk.new (w.alloc (.cells #[.int .i64 x.kind, .string x.pat.rel, .slice a x.pat.args.length c] 67)) 67 #[.int .i64 x.kind, .string x.pat.rel, .slice b x.pat.args.length d]
    simpa using this
  have HP := Lib.hid (h.up hb0).apat
  have HP' := Lib.hid (h'.up hb0).apat
  have HB := Lib.hid hb0
  have K0 := Lib.hid k0
  have K1 := Lib.hid k1
  clear hb0 k0 k1 h h'
  go_enter Try.func40, Try.ntmps40
  go_wp2_with fail
  generalize ((w.alloc (.cells #[.int .i64 x.kind, .string x.pat.rel, .slice a x.pat.args.length c] 67)).alloc (.cells #[.int .i64 x.kind, .string x.pat.rel, .slice b x.pat.args.length d] 67)) = W at *
  refine (ceq_pat HP.out HP'.out).mono ?_
  rintro e w1 ⟨rfl, b1⟩
  have HB1 := Lib.hid (Up.tr HB.out b1)
  clear b1
  go_wp2_with fail
  go_ret
  exact ⟨rfl, HB1.out⟩
end Go.Proofs.Ytojgkodffmdnpaa
