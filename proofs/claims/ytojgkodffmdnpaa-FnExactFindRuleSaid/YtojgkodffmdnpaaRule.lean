/- The laws' own functions on rules (size, equality). -/
import Derived.Test.YtojgkodffmdnpaaLs2
namespace Go.Proofs.Ytojgkodffmdnpaa
open Go.RowKit
attribute [local go_sem ↓] Go.wp_at_zero Go.wp_at_succ
set_option linter.unusedVariables false
def rsz (x : RuleV) : Nat := x.name.size + cssz x.ifs + assz x.thens
theorem AR.parts {w : World} {lo hi : Nat} {v : Value} {x : RuleV} (h : Ob AR w lo hi v x) : ∃ ia ic ta tc, v = .agg #[.string x.name, .int .i64 x.prio, .slice ia x.ifs.length ic, .slice ta x.thens.length tc] ∧
    Ob (SL CondC 5) w lo hi (.slice ia x.ifs.length ic) x.ifs ∧ Ob (SL ActC 3) w lo hi (.slice ta x.thens.length tc) x.thens := by
  obtain ⟨⟨cs, rfl, iv, tv, rfl, h1, h2⟩, hh⟩ := h
  obtain ⟨ia, ic, rfl⟩ := h1.form
  obtain ⟨ta, tc, rfl⟩ := h2.form
  exact ⟨ia, ic, ta, tc, rfl, ⟨h1, hh⟩, ⟨h2, hh⟩⟩
theorem AR.form {w : World} {lo hi : Nat} {v : Value} {x : RuleV} (h : AR w lo hi v x) : ∃ ia ic ta tc, v = .agg #[.string x.name, .int .i64 x.prio, .slice ia x.ifs.length ic, .slice ta x.thens.length tc] := by
  obtain ⟨cs, rfl, iv, tv, rfl, h1, h2⟩ := h
  obtain ⟨ia, ic, rfl⟩ := h1.form
  obtain ⟨ta, tc, rfl⟩ := h2.form
  exact ⟨ia, ic, ta, tc, rfl⟩
set_option maxHeartbeats 1000000 in
theorem csz_rule {v : Value} {x : RuleV} {left : Int} {lo hi : Nat} {w : World} (h : Ob AR w lo hi v x) (hok : okR x) (h0 : 0 ≤ left) (h2 : left ≤ 1048576) :
    Calls Try.prog 31 #[v, .int .i64 left] w fun e w' => e = .returned (.int .i64 (szv left (rsz x))) ∧ Up w w' := by
  obtain ⟨ia, ic, ta, tc, rfl, hI, hT⟩ := AR.parts h
  obtain ⟨okn, -, oki, okt⟩ := hok
  unfold okS at okn
  have hb0 : Up w (w.alloc (.cells #[.string x.name, .int .i64 x.prio, .slice ia x.ifs.length ic, .slice ta x.thens.length tc] 52)) := Up.al1 _ _
  have HK := Lib.hid (Blk.new w 52 #[.string x.name, .int .i64 x.prio, .slice ia x.ifs.length ic, .slice ta x.thens.length tc])
  have HI := Lib.hid (hI.up hb0)
  have HT := Lib.hid (hT.up hb0)
  have HB := Lib.hid hb0
  clear hb0 h hI hT
  by_cases l1 : (x.name.size : Int) ≤ left
  · go_enter Try.func31, Try.ntmps31
    go_wp2_with fail
    generalize (w.alloc (.cells #[.string x.name, .int .i64 x.prio, .slice ia x.ifs.length ic, .slice ta x.thens.length tc] 52)) = W at *
    refine (csz_conds HI.out oki (by omega) (by omega)).mono ?_
    rintro e W1 ⟨rfl, b1⟩
    have q3 : W1.cell? ⟨w.heap.size, 3, none⟩ = some (.slice ta x.thens.length tc) := ((HK.out.up b1).cell 3).trans rfl
    have HB1 := Lib.hid (Up.tr HB.out b1)
    have HT1 := Lib.hid (HT.out.up b1)
    clear b1 HB HT HI HK
    by_cases l2 : ((cssz x.ifs : Nat) : Int) ≤ left - x.name.size
    · rw [szv_pos l2]
      go_wp2_with fail
      refine (csz_acts HT1.out okt (by omega) (by omega)).mono ?_
      rintro e W2 ⟨rfl, b2⟩
      have HB2 := Lib.hid (Up.tr HB1.out b2)
      clear b2 q3 HB1 HT1
      by_cases l3 : ((assz x.thens : Nat) : Int) ≤ left - x.name.size - (cssz x.ifs : Nat)
      · have HF := Lib.hid (szv_pos (left := left) (n := rsz x) (by unfold rsz; omega))
        rw [szv_pos l3]
        go_wp2_with fail
        go_ret
        exact ⟨ret_int (by rw [HF.out]; unfold rsz; omega), HB2.out⟩
      · have HF := Lib.hid (szv_neg (left := left) (n := rsz x) (by unfold rsz; omega))
        rw [szv_neg (by omega)]
        go_wp2_with fail
        go_ret
        exact ⟨ret_int HF.out.symm, HB2.out⟩
    · have HF := Lib.hid (szv_neg (left := left) (n := rsz x) (by unfold rsz; omega))
      rw [szv_neg (by omega)]
      go_wp2_with fail
      go_ret
      exact ⟨ret_int HF.out.symm, HB1.out⟩
  · have HF := Lib.hid (szv_neg (left := left) (n := rsz x) (by unfold rsz; omega))
    go_enter Try.func31, Try.ntmps31
    go_wp2_with fail
    go_ret
    exact ⟨ret_int HF.out.symm, HB.out⟩
set_option maxHeartbeats 1000000 in
theorem ceq_rule {v v' : Value} {x : RuleV} {lo hi lo' hi' : Nat} {w : World} (h : Ob AR w lo hi v x) (h' : Ob AR w lo' hi' v' x) :
    Calls Try.prog 35 #[v, v'] w fun e w' => e = .returned (.bool true) ∧ Up w w' := by
  obtain ⟨ia, ic, ta, tc, rfl, hI, hT⟩ := AR.parts h
  obtain ⟨ja, jc, ua, uc, rfl, hJ, hU⟩ := AR.parts h'
  have hb0 : Up w ((w.alloc (.cells #[.string x.name, .int .i64 x.prio, .slice ia x.ifs.length ic, .slice ta x.thens.length tc] 58)).alloc (.cells #[.string x.name, .int .i64 x.prio, .slice ja x.ifs.length jc, .slice ua x.thens.length uc] 58)) := (Up.al1 _ _).al _
  have k0 : Blk ((w.alloc (.cells #[.string x.name, .int .i64 x.prio, .slice ia x.ifs.length ic, .slice ta x.thens.length tc] 58)).alloc (.cells #[.string x.name, .int .i64 x.prio, .slice ja x.ifs.length jc, .slice ua x.thens.length uc] 58)) w.heap.size 58 #[.string x.name, .int .i64 x.prio, .slice ia x.ifs.length ic, .slice ta x.thens.length tc] := (Blk.new w _ _).alloc _
  have k1 : Blk ((w.alloc (.cells #[.string x.name, .int .i64 x.prio, .slice ia x.ifs.length ic, .slice ta x.thens.length tc] 58)).alloc (.cells #[.string x.name, .int .i64 x.prio, .slice ja x.ifs.length jc, .slice ua x.thens.length uc] 58)) (w.heap.size + 1) 58 #[.string x.name, .int .i64 x.prio, .slice ja x.ifs.length jc, .slice ua x.thens.length uc] := by
    have := Blk.new (w.alloc (.cells #[.string x.name, .int .i64 x.prio, .slice ia x.ifs.length ic, .slice ta x.thens.length tc] 58)) 58 #[.string x.name, .int .i64 x.prio, .slice ja x.ifs.length jc, .slice ua x.thens.length uc]
    simpa using this
  have HI := Lib.hid (hI.up hb0); have HT := Lib.hid (hT.up hb0)
  have HJ := Lib.hid (hJ.up hb0); have HU := Lib.hid (hU.up hb0)
  have HB := Lib.hid hb0
  have K0 := Lib.hid k0; have K1 := Lib.hid k1
  clear hb0 k0 k1 h h' hI hT hJ hU
  go_enter Try.func35, Try.ntmps35
  go_wp2_with fail
  generalize ((w.alloc (.cells #[.string x.name, .int .i64 x.prio, .slice ia x.ifs.length ic, .slice ta x.thens.length tc] 58)).alloc (.cells #[.string x.name, .int .i64 x.prio, .slice ja x.ifs.length jc, .slice ua x.thens.length uc] 58)) = W at *
  refine (ceq_conds HI.out HJ.out).mono ?_
  rintro e w1 ⟨rfl, b1⟩
  have q0 : w1.cell? ⟨w.heap.size, 3, none⟩ = some (.slice ta x.thens.length tc) := ((K0.out.up b1).cell 3).trans rfl
  have q1 : w1.cell? ⟨w.heap.size + 1, 3, none⟩ = some (.slice ua x.thens.length uc) := ((K1.out.up b1).cell 3).trans rfl
  have HB1 := Lib.hid (Up.tr HB.out b1)
  replace HT := Lib.hid (HT.out.up b1); replace HU := Lib.hid (HU.out.up b1)
  clear b1
  go_wp2_with fail
  clear q0 q1
  refine (ceq_acts HT.out HU.out).mono ?_
  rintro e w2 ⟨rfl, b2⟩
  have HB2 := Lib.hid (Up.tr HB1.out b2)
  clear b2
  go_wp2_with fail
  go_ret
  exact ⟨rfl, HB2.out⟩
theorem sl_mono {α : Type} {R : World → Nat → Nat → List Value → α → Prop} {size : Nat} {w : World} {lo hi lo' hi' : Nat} {v : Value} {L : List α} (h : SL R size w lo hi v L) (h1 : lo' ≤ lo) (h2 : hi ≤ hi') (hR : ∀ cs a, R w lo hi cs a → R w lo' hi' cs a) : SL R size w lo' hi' v L := by
  obtain ⟨a, cap, e1, e2, e3, h4⟩ := h
  refine ⟨a, cap, e1, e2, e3, fun hp => ?_⟩
  obtain ⟨b, off, e, hl, hh, hc⟩ := h4 hp
  exact ⟨b, off, e, by omega, by omega, fun i hi => by obtain ⟨cs, c1, c2, c3⟩ := hc i hi; exact ⟨cs, c1, c2, hR _ _ c3⟩⟩
theorem slc_mono {w : World} {lo hi lo' hi' : Nat} {v : Value} {L : List CondV} (h : SL CondC 5 w lo hi v L) (h1 : lo' ≤ lo) (h2 : hi ≤ hi') : SL CondC 5 w lo' hi' v L := sl_mono h h1 h2 fun _ _ hc => hc.mono h1 h2
theorem sla_mono {w : World} {lo hi lo' hi' : Nat} {v : Value} {L : List ActV} (h : SL ActC 3 w lo hi v L) (h1 : lo' ≤ lo) (h2 : hi ≤ hi') : SL ActC 3 w lo' hi' v L := sl_mono h h1 h2 fun _ _ hc => hc.mono h1 h2
theorem ld_rule (g : Nat) (t : TypeId) (c0 c1 c2 c3 : Value) (W : World) (h : Blk W g t #[c0, c1, c2, c3]) : (loadVar 58 ⟨g, 0, none⟩).run Try.prog W = .ok (.agg #[c0, c1, c2, c3]) W := by
  have q0 : W.cell? ⟨g, 0, none⟩ = some c0 := (h.cell 0).trans rfl
  have q1 : W.cell? ⟨g, 1, none⟩ = some c1 := (h.cell 1).trans rfl
  have q2 : W.cell? ⟨g, 2, none⟩ = some c2 := (h.cell 2).trans rfl
  have q3 : W.cell? ⟨g, 3, none⟩ = some c3 := (h.cell 3).trans rfl
  clear h
  simp [go_sem, q0, q1, q2, q3]
set_option maxHeartbeats 2000000 in
theorem cto_rule {v : Value} {x : RuleV} {lo hi : Nat} {w : World} (h : Ob AR w lo hi v x) (hz : rsz x ≤ 1048576) :
    Calls Try.prog 33 #[v] w fun e w' => ∃ v', e = .returned v' ∧ Ob AR w' w.heap.size w'.heap.size v' x ∧ Up w w' := by
  obtain ⟨ia, ic, ta, tc, rfl, hI, hT⟩ := AR.parts h
  have hhi := h.2
  have zi : cssz x.ifs ≤ 1048576 := by unfold rsz at hz; omega
  have zt : assz x.thens ≤ 1048576 := by unfold rsz at hz; omega
  have hb0 : Up w (((w.alloc (.cells #[.string x.name, .int .i64 x.prio, .slice ia x.ifs.length ic, .slice ta x.thens.length tc] 52)).alloc (.cells #[.string ⟨#[]⟩, .int .i64 0, .slice none 0 0, .slice none 0 0] 58)).alloc (.cells #[.string x.name, .int .i64 x.prio, .slice none 0 0, .slice none 0 0] 58)) := ((Up.al1 _ _).al _).al _
  have k0 : Blk (((w.alloc (.cells #[.string x.name, .int .i64 x.prio, .slice ia x.ifs.length ic, .slice ta x.thens.length tc] 52)).alloc (.cells #[.string ⟨#[]⟩, .int .i64 0, .slice none 0 0, .slice none 0 0] 58)).alloc (.cells #[.string x.name, .int .i64 x.prio, .slice none 0 0, .slice none 0 0] 58)) w.heap.size 52 #[.string x.name, .int .i64 x.prio, .slice ia x.ifs.length ic, .slice ta x.thens.length tc] := ((Blk.new w _ _).alloc _).alloc _
  have k1 : Blk (((w.alloc (.cells #[.string x.name, .int .i64 x.prio, .slice ia x.ifs.length ic, .slice ta x.thens.length tc] 52)).alloc (.cells #[.string ⟨#[]⟩, .int .i64 0, .slice none 0 0, .slice none 0 0] 58)).alloc (.cells #[.string x.name, .int .i64 x.prio, .slice none 0 0, .slice none 0 0] 58)) (w.heap.size + 1) 58 #[.string ⟨#[]⟩, .int .i64 0, .slice none 0 0, .slice none 0 0] := by
    have := (Blk.new (w.alloc (.cells #[.string x.name, .int .i64 x.prio, .slice ia x.ifs.length ic, .slice ta x.thens.length tc] 52)) 58 #[.string ⟨#[]⟩, .int .i64 0, .slice none 0 0, .slice none 0 0]).alloc (.cells #[.string x.name, .int .i64 x.prio, .slice none 0 0, .slice none 0 0] 58)
    simpa using this
  have k2 : Blk (((w.alloc (.cells #[.string x.name, .int .i64 x.prio, .slice ia x.ifs.length ic, .slice ta x.thens.length tc] 52)).alloc (.cells #[.string ⟨#[]⟩, .int .i64 0, .slice none 0 0, .slice none 0 0] 58)).alloc (.cells #[.string x.name, .int .i64 x.prio, .slice none 0 0, .slice none 0 0] 58)) (w.heap.size + 1 + 1) 58 #[.string x.name, .int .i64 x.prio, .slice none 0 0, .slice none 0 0] := by
    have := Blk.new ((w.alloc (.cells #[.string x.name, .int .i64 x.prio, .slice ia x.ifs.length ic, .slice ta x.thens.length tc] 52)).alloc (.cells #[.string ⟨#[]⟩, .int .i64 0, .slice none 0 0, .slice none 0 0] 58)) 58 #[.string x.name, .int .i64 x.prio, .slice none 0 0, .slice none 0 0]
    simpa using this
  have hs : (((w.alloc (.cells #[.string x.name, .int .i64 x.prio, .slice ia x.ifs.length ic, .slice ta x.thens.length tc] 52)).alloc (.cells #[.string ⟨#[]⟩, .int .i64 0, .slice none 0 0, .slice none 0 0] 58)).alloc (.cells #[.string x.name, .int .i64 x.prio, .slice none 0 0, .slice none 0 0] 58)).heap.size = w.heap.size + 3 := by simp
  have HI := Lib.hid (hI.up hb0); have HT := Lib.hid (hT.up hb0)
  have HB := Lib.hid hb0; have K0 := Lib.hid k0; have K1 := Lib.hid k1; have K2 := Lib.hid k2
  clear hb0 k0 k1 k2 h hI hT hz
  go_enter Try.func33, Try.ntmps33
  go_wp2_with fail
  generalize (((w.alloc (.cells #[.string x.name, .int .i64 x.prio, .slice ia x.ifs.length ic, .slice ta x.thens.length tc] 52)).alloc (.cells #[.string ⟨#[]⟩, .int .i64 0, .slice none 0 0, .slice none 0 0] 58)).alloc (.cells #[.string x.name, .int .i64 x.prio, .slice none 0 0, .slice none 0 0] 58)) = W at *
  have HS := Lib.hid hs
  clear hs
  refine (cto_conds HI.out zi).mono ?_
  rintro e w1 ⟨v1, rfl, ho1, b1⟩
  obtain ⟨ja, jc, rfl⟩ := ho1.1.form
  have hs1 : w.heap.size + 3 ≤ w1.heap.size := by have := b1.size; have := HS.out; omega
  have r2 : w1.cell? ⟨w.heap.size + 1 + 1, 2, none⟩ = some (.slice none 0 0) := ((K2.out.up b1).cell 2).trans rfl
  have f2 := (K2.out.up b1).frozen 2
  have M0 : Blk (w1.setCell ⟨w.heap.size + 1 + 1, 2, none⟩ (.slice ja x.ifs.length jc)) w.heap.size 52 #[.string x.name, .int .i64 x.prio, .slice ia x.ifs.length ic, .slice ta x.thens.length tc] := (K0.out.up b1).far (by simp; omega) _
  have M1 : Blk (w1.setCell ⟨w.heap.size + 1 + 1, 2, none⟩ (.slice ja x.ifs.length jc)) (w.heap.size + 1) 58 #[.string ⟨#[]⟩, .int .i64 0, .slice none 0 0, .slice none 0 0] := (K1.out.up b1).far (by simp) _
  have M2 : Blk (w1.setCell ⟨w.heap.size + 1 + 1, 2, none⟩ (.slice ja x.ifs.length jc)) (w.heap.size + 1 + 1) 58 #[.string x.name, .int .i64 x.prio, .slice ja x.ifs.length jc, .slice none 0 0] := by
    have := (K2.out.up b1).set_ 2 (.slice ja x.ifs.length jc)
    simpa using this
  have hB1 : Up w (w1.setCell ⟨w.heap.size + 1 + 1, 2, none⟩ (.slice ja x.ifs.length jc)) := (HB.out.tr b1).setCell (p := ⟨w.heap.size + 1 + 1, 2, none⟩) (by simp; omega) _
  have hT1 : Ob (SL ActC 3) (w1.setCell ⟨w.heap.size + 1 + 1, 2, none⟩ (.slice ja x.ifs.length jc)) lo hi (.slice ta x.thens.length tc) x.thens := ⟨SLA.keep (HT.out.up b1).1 ((Stays.refl w1 lo hi).setCell (p := ⟨w.heap.size + 1 + 1, 2, none⟩) (.inr (by simp; omega)) _), by simp [World.setCell]; omega⟩
  have hz1 : (w1.setCell ⟨w.heap.size + 1 + 1, 2, none⟩ (.slice ja x.ifs.length jc)).heap.size = w1.heap.size := by simp [World.setCell]
  have hO1 : SL CondC 5 (w1.setCell ⟨w.heap.size + 1 + 1, 2, none⟩ (.slice ja x.ifs.length jc)) (w.heap.size + 3) w1.heap.size (.slice ja x.ifs.length jc) x.ifs := by
    have := SLC.keep ho1.1 ((Stays.refl w1 W.heap.size w1.heap.size).setCell (p := ⟨w.heap.size + 1 + 1, 2, none⟩) (.inl (by have := HS.out; simp; omega)) (.slice ja x.ifs.length jc))
    rwa [HS.out] at this
  have q3 : (w1.setCell ⟨w.heap.size + 1 + 1, 2, none⟩ (.slice ja x.ifs.length jc)).cell? ⟨w.heap.size, 3, none⟩ = some (.slice ta x.thens.length tc) := (M0.cell 3).trans rfl
  go_wp2_with fail
  have HM1 := Lib.hid M1; have HM2 := Lib.hid M2; have HB1 := Lib.hid hB1; have HT1 := Lib.hid hT1; have HO1 := Lib.hid hO1; have HZ1 := Lib.hid hz1
  clear r2 f2 q3 M0 M1 M2 hB1 hT1 hz1 hO1 ho1 b1 HI HT HB K0 K1 K2
  generalize (w1.setCell ⟨w.heap.size + 1 + 1, 2, none⟩ (.slice ja x.ifs.length jc)) = W1 at *
  refine (cto_acts HT1.out zt).mono ?_
  rintro e w2 ⟨v2, rfl, ho2, b2⟩
  obtain ⟨ua, uc, rfl⟩ := ho2.1.form
  have hs2 : w1.heap.size ≤ w2.heap.size := by have := b2.size; have := HZ1.out; omega
  have m0 : w2.cell? ⟨w.heap.size + 1 + 1, 0, none⟩ = some (.string x.name) := ((HM2.out.up b2).cell 0).trans rfl
  have m1 : w2.cell? ⟨w.heap.size + 1 + 1, 1, none⟩ = some (.int .i64 x.prio) := ((HM2.out.up b2).cell 1).trans rfl
  have m2 : w2.cell? ⟨w.heap.size + 1 + 1, 2, none⟩ = some (.slice ja x.ifs.length jc) := ((HM2.out.up b2).cell 2).trans rfl
  have m3 : w2.cell? ⟨w.heap.size + 1 + 1, 3, none⟩ = some (.slice none 0 0) := ((HM2.out.up b2).cell 3).trans rfl
  have f3 := (HM2.out.up b2).frozen 3
  have n0 : w2.cell? ⟨w.heap.size + 1, 0, none⟩ = some (.string ⟨#[]⟩) := ((HM1.out.up b2).cell 0).trans rfl
  have n1 : w2.cell? ⟨w.heap.size + 1, 1, none⟩ = some (.int .i64 0) := ((HM1.out.up b2).cell 1).trans rfl
  have n2 : w2.cell? ⟨w.heap.size + 1, 2, none⟩ = some (.slice none 0 0) := ((HM1.out.up b2).cell 2).trans rfl
  have n3 : w2.cell? ⟨w.heap.size + 1, 3, none⟩ = some (.slice none 0 0) := ((HM1.out.up b2).cell 3).trans rfl
  have g0 := (HM1.out.up b2).frozen 0
  have g1 := (HM1.out.up b2).frozen 1
  have g2 := (HM1.out.up b2).frozen 2
  have g3 := (HM1.out.up b2).frozen 3
  have HM := Lib.hid (HM1.out.up b2)
  have HB2 := Lib.hid (HB1.out.tr b2)
  have hst : Stays w2 w2 (w.heap.size + 3) w2.heap.size := Stays.refl _ _ _
  have HO2 : Hid (SL CondC 5 w2 (w.heap.size + 3) w1.heap.size (.slice ja x.ifs.length jc) x.ifs) := SLC.keep HO1.out (Stays.of_below b2 (Nat.le_of_eq HZ1.out.symm))
  have HP2 : Hid (SL ActC 3 w2 w1.heap.size w2.heap.size (.slice ua x.thens.length uc) x.thens) := by have h := ho2.1; rw [HZ1.out] at h; exact h
  clear ho2 b2 HM1 HM2 HB1 HT1 HO1 HZ1 hst
  go_wp2_with fail
  clear m0 m1 m2 m3 f3 n0 n1 n2 n3 g0 g1 g2 g3
  refine ret_cell (g := w.heap.size + 1) (t := 58) (cs := #[.string x.name, .int .i64 x.prio, .slice ja x.ifs.length jc, .slice ua x.thens.length uc]) rfl rfl (ld_rule _ _ _ _ _ _) ?_ rfl ?_
  · exact (((((HM.out.far (by simp) _).set_ 0 _).set_ 1 _).set_ 2 _).set_ 3 _)
  · refine ⟨_, rfl, ⟨⟨_, rfl, _, _, rfl, ?_, ?_⟩, Nat.le_refl _⟩, ?_⟩
    · refine slc_mono (SLC.keep HO2.out (((((Stays.refl _ _ _).setCell (.inl ?_) _).setCell (.inl ?_) _).setCell (.inl ?_) _).setCell (.inl ?_) _ |>.setCell (.inl ?_) _)) ?_ ?_
      all_goals first | omega | (simp [World.setCell]; omega) | simp
    · refine sla_mono (SLA.keep HP2.out (((((Stays.refl _ _ _).setCell (.inl ?_) _).setCell (.inl ?_) _).setCell (.inl ?_) _).setCell (.inl ?_) _ |>.setCell (.inl ?_) _)) ?_ ?_
      all_goals first | omega | (simp [World.setCell]; omega) | simp [World.setCell]
    · exact ((((HB2.out.setCell (by simp; omega) _).setCell (by simp) _).setCell (by simp) _).setCell (by simp) _).setCell (by simp) _
end Go.Proofs.Ytojgkodffmdnpaa
