/- Conditions are renamed, the program's and the reference's. -/
import Derived.Deep.AppendLies
import Derived.Deep.DeepCutAuto
import Derived.Deep.RegionLaw
import Derived.Test.YtojgkodffmdnpaaRen
namespace Go.Proofs.Ytojgkodffmdnpaa
open Go.RowKit
attribute [local go_sem ↓] Go.wp_at_zero Go.wp_at_succ
set_option linter.unusedVariables false
theorem ctC_ren (x : CondV) (y : Prs) (h : csz x ≤ 4194304) : (renC x y).pat.args.length ≤ 4194304 := by
  unfold csz fsz tsz at h; simp [renC]; omega
theorem Up.set5 {a w : World} {g : Nat} (h : Up a w) (hg : a.heap.size ≤ g) (v0 v1 v2 v3 v4 : Value) : Up a (((((w.setCell ⟨g, 0, none⟩ v0).setCell ⟨g, 1, none⟩ v1).setCell ⟨g, 2, none⟩ v2).setCell ⟨g, 3, none⟩ v3).setCell ⟨g, 4, none⟩ v4) :=
  ((((h.setCell (p := ⟨g, 0, none⟩) hg _).setCell (p := ⟨g, 1, none⟩) hg _).setCell (p := ⟨g, 2, none⟩) hg _).setCell (p := ⟨g, 3, none⟩) hg _).setCell (p := ⟨g, 4, none⟩) hg _
theorem Blk.set5 {w : World} {g : Nat} {t : TypeId} {a0 a1 a2 a3 a4 : Value} (h : Blk w g t #[a0, a1, a2, a3, a4]) (v0 v1 v2 v3 v4 : Value) : Blk (((((w.setCell ⟨g, 0, none⟩ v0).setCell ⟨g, 1, none⟩ v1).setCell ⟨g, 2, none⟩ v2).setCell ⟨g, 3, none⟩ v3).setCell ⟨g, 4, none⟩ v4) g t #[v0, v1, v2, v3, v4] := by
  have := ((((h.set_ 0 v0).set_ 1 v1).set_ 2 v2).set_ 3 v3).set_ 4 v4
  simpa using this
theorem Stays.set5 {w : World} {lo hi g : Nat} (hg : g < lo) (v0 v1 v2 v3 v4 : Value) : Stays w (((((w.setCell ⟨g, 0, none⟩ v0).setCell ⟨g, 1, none⟩ v1).setCell ⟨g, 2, none⟩ v2).setCell ⟨g, 3, none⟩ v3).setCell ⟨g, 4, none⟩ v4) lo hi :=
  (((((Stays.refl w lo hi).setCell (p := ⟨g, 0, none⟩) (.inl hg) v0).setCell (p := ⟨g, 1, none⟩) (.inl hg) v1).setCell (p := ⟨g, 2, none⟩) (.inl hg) v2).setCell (p := ⟨g, 3, none⟩) (.inl hg) v3).setCell (p := ⟨g, 4, none⟩) (.inl hg) v4
set_option maxHeartbeats 4000000 in
set_option maxRecDepth 100000 in
theorem cRename {v vy : Value} {x : CondV} {y : Prs} {lo hi lo' hi' : Nat} {w : World} (h : Ob AC w lo hi v x) (hy : Ob SP w lo' hi' vy y) (hz : csz x ≤ 1048576) :
    Calls Try.prog 20 #[v, vy] w fun e w' => ∃ v', e = .returned v' ∧ Ob (CO 9) w' w.heap.size w'.heap.size v' (renC x y) ∧ Up w w' := by
  have hlen : x.pat.args.length ≤ 4194304 := by unfold csz fsz tsz at hz; omega
  obtain ⟨a, cap, rfl⟩ := h.1.form
  obtain ⟨ya, yc, rfl⟩ := hy.1.form
  obtain ⟨i0, hi0, hz0, hz1, hz2⟩ := info_parts Try.infoStr
  have hb0 : Up w ((w.alloc (.cells #[.int .i64 x.kind, .string x.pat.rel, .slice a x.pat.args.length cap, .string x.left, .string x.right] 32)).alloc (.cells #[.int .i64 0, .string ⟨#[]⟩, .slice none 0 0, .string ⟨#[]⟩, .string ⟨#[]⟩] 32)) := (Up.al1 _ _).al _
  have hk0 : Blk ((w.alloc (.cells #[.int .i64 x.kind, .string x.pat.rel, .slice a x.pat.args.length cap, .string x.left, .string x.right] 32)).alloc (.cells #[.int .i64 0, .string ⟨#[]⟩, .slice none 0 0, .string ⟨#[]⟩, .string ⟨#[]⟩] 32)) w.heap.size 32 #[.int .i64 x.kind, .string x.pat.rel, .slice a x.pat.args.length cap, .string x.left, .string x.right] := (Blk.new w 32 #[.int .i64 x.kind, .string x.pat.rel, .slice a x.pat.args.length cap, .string x.left, .string x.right]).alloc _
  have hk1 : Blk ((w.alloc (.cells #[.int .i64 x.kind, .string x.pat.rel, .slice a x.pat.args.length cap, .string x.left, .string x.right] 32)).alloc (.cells #[.int .i64 0, .string ⟨#[]⟩, .slice none 0 0, .string ⟨#[]⟩, .string ⟨#[]⟩] 32)) (w.heap.size + 1) 32 #[.int .i64 0, .string ⟨#[]⟩, .slice none 0 0, .string ⟨#[]⟩, .string ⟨#[]⟩] := by
    have := Blk.new (w.alloc (.cells #[.int .i64 x.kind, .string x.pat.rel, .slice a x.pat.args.length cap, .string x.left, .string x.right] 32)) 32 #[.int .i64 0, .string ⟨#[]⟩, .slice none 0 0, .string ⟨#[]⟩, .string ⟨#[]⟩]
    simpa using this
  have hws : ((w.alloc (.cells #[.int .i64 x.kind, .string x.pat.rel, .slice a x.pat.args.length cap, .string x.left, .string x.right] 32)).alloc (.cells #[.int .i64 0, .string ⟨#[]⟩, .slice none 0 0, .string ⟨#[]⟩, .string ⟨#[]⟩] 32)).heap.size = w.heap.size + 2 := by simp
  have HY := Lib.hid (hy.up hb0)
  have HPT := Lib.hid (AF.tx9 (Ob.pat (h.up hb0)))
  have KP := Lib.hid hk0; have KR := Lib.hid hk1; have HB := Lib.hid hb0
  clear h hy hb0 hk0 hk1 hz
  go_enter Try.func20, Try.ntmps20
  go_upto_region 1 with fail
  generalize ((w.alloc (.cells #[.int .i64 x.kind, .string x.pat.rel, .slice a x.pat.args.length cap, .string x.left, .string x.right] 32)).alloc (.cells #[.int .i64 0, .string ⟨#[]⟩, .slice none 0 0, .string ⟨#[]⟩, .string ⟨#[]⟩] 32)) = W at *
  have HWS := Lib.hid hws
  clear hws
  have c0 : W.cell? ⟨w.heap.size, 0, none⟩ = some (.int .i64 x.kind) := KP.out.cell 0
  have c3 : W.cell? ⟨w.heap.size, 3, none⟩ = some (.string x.left) := KP.out.cell 3
  have c4 : W.cell? ⟨w.heap.size, 4, none⟩ = some (.string x.right) := KP.out.cell 4
  have mk : Hid (∀ w', Up W w' → w'.cell? ⟨w.heap.size, 0, none⟩ = some (.int .i64 x.kind) ∧ w'.cell? ⟨w.heap.size, 3, none⟩ = some (.string x.left) ∧ w'.cell? ⟨w.heap.size, 4, none⟩ = some (.string x.right) ∧ Up W w') := Lib.hid fun w' hu => ⟨keepCell hu (KP.out.cell 0), keepCell hu (KP.out.cell 3), keepCell hu (KP.out.cell 4), hu⟩
  go_cut [5] (fun s5 wx => ∃ g, s5 = .pointer (some ⟨g, 0, none⟩) ∧ W.heap.size ≤ g ∧ Blk wx g 32 #[.int .i64 x.kind, .string ⟨#[]⟩, .slice none 0 0, .string (renT y x.left), .string (renT y x.right)] ∧ Up W wx)
  case first =>
    go_region_held3 (fun w' => w'.cell? ⟨w.heap.size, 0, none⟩ = some (.int .i64 x.kind) ∧ w'.cell? ⟨w.heap.size, 3, none⟩ = some (.string x.left) ∧ w'.cell? ⟨w.heap.size, 4, none⟩ = some (.string x.right) ∧ Up W w')
      (first
        | (with_reducible exact mk.out _ (Up.rf _).dr)
        | (with_reducible exact mk.out _ hU)
        | (with_reducible exact mk.out _ (hU.set5 hg5 _ _ _ _ _))
        | (with_reducible exact mk.out _ (hU.al _))
        | (with_reducible exact mk.out _ ((Up.rf _).al _).dr))
      (first
        | (go_at_call 80; have hh := ‹_ ∧ _ ∧ _ ∧ _›; (with_reducible refine (cRen (HY.out.up hh.2.2.2)).mono ?_); rintro e w1 ⟨rfl, b1⟩; (first | (have K5 : Blk w1 W.heap.size 32 #[.int .i64 0, .string ⟨#[]⟩, .slice none 0 0, .string ⟨#[]⟩, .string ⟨#[]⟩] := (by with_reducible exact ((Blk.new W 32 #[.int .i64 0, .string ⟨#[]⟩, .slice none 0 0, .string ⟨#[]⟩, .string ⟨#[]⟩]).up (Up.rf _).dr).up b1); have hg5 := Nat.le_refl W.heap.size) | (with_reducible have K5 := (Blk.new _ 32 #[.int .i64 0, .string ⟨#[]⟩, .slice none 0 0, .string ⟨#[]⟩, .string ⟨#[]⟩]).up b1; have hg5 := hU.size) | (have K5 := K5.up b1) | skip); have hU := Up.tr hh.2.2.2 b1; (try (have f0 := K5.frozen 0; have f1 := K5.frozen 1; have f2 := K5.frozen 2; have f3 := K5.frozen 3; have f4 := K5.frozen 4; have d0 : w1.cell? ⟨_, 0, none⟩ = some (.int .i64 0) := K5.cell 0; have d1 : w1.cell? ⟨_, 1, none⟩ = some (.string ⟨#[]⟩) := K5.cell 1; have d2 : w1.cell? ⟨_, 2, none⟩ = some (.slice none 0 0) := K5.cell 2; have d3 : w1.cell? ⟨_, 3, none⟩ = some (.string ⟨#[]⟩) := K5.cell 3; have d4 : w1.cell? ⟨_, 4, none⟩ = some (.string ⟨#[]⟩) := K5.cell 4)); clear hh))
    all_goals
      go_wp2_with fail
      go_meet
      case rel => first | (with_reducible exact ⟨_, rfl, hU.size, Blk.new _ _ _, hU.al _⟩) | exact ⟨_, rfl, hg5, K5.set5 _ _ _ _ _, hU.set5 hg5 _ _ _ _ _⟩
  case rest =>
    obtain ⟨g, rfl, hg, hK, hB⟩ := hcut
    clear c0 c3 c4 mk
    have hgw := hK.lt
    have c1 : wc.cell? ⟨w.heap.size, 1, none⟩ = some (.string x.pat.rel) := (KP.out.up hB).cell 1
    have c2 : wc.cell? ⟨w.heap.size, 2, none⟩ = some (.slice a x.pat.args.length cap) := (KP.out.up hB).cell 2
    have d1 : wc.cell? ⟨g, 1, none⟩ = some (.string ⟨#[]⟩) := hK.cell 1
    have f1 := hK.frozen 1
    have hK2 : Blk (wc.setCell ⟨g, 1, none⟩ (.string x.pat.rel)) g 32 #[.int .i64 x.kind, .string x.pat.rel, .slice none 0 0, .string (renT y x.left), .string (renT y x.right)] := by have := hK.set_ 1 (.string x.pat.rel); simpa using this
    have hB2 : Up W (wc.setCell ⟨g, 1, none⟩ (.string x.pat.rel)) := hB.setCell (p := ⟨g, 1, none⟩) hg _
    have c2' : (wc.setCell ⟨g, 1, none⟩ (.string x.pat.rel)).cell? ⟨w.heap.size, 2, none⟩ = some (.slice a x.pat.args.length cap) := (KP.out.up hB2).cell 2
    have HK2 := Lib.hid hK2
    have HB2 := Lib.hid hB2
    have hgw2 : g < (wc.setCell ⟨g, 1, none⟩ (.string x.pat.rel)).heap.size := hK2.lt
    clear hK2 hB2
    go_wp2_with fail
    clear c1 c2 d1 f1 c2'
    generalize (wc.setCell ⟨g, 1, none⟩ (.string x.pat.rel)) = w3 at *
    go_loopw [28] (fun i wr => ∃ (k : Nat) (ov : Value), k ≤ x.pat.args.length ∧ i = .int .i64 k ∧ Up W wr ∧ g < wr.heap.size ∧ Hid (Blk wr g 32 #[.int .i64 x.kind, .string x.pat.rel, ov, .string (renT y x.left), .string (renT y x.right)]) ∧ Hid (TO 9 wr (g + 1) wr.heap.size ov ((x.pat.args.take k).map (renT y)))) (fun i _ => x.pat.args.length - (intOf i).toNat)
    case atStart => exact ⟨0, _, Nat.zero_le _, rfl, HB2.out, hgw2, HK2.out, TO.nil_ _ _ _ _⟩
    case round =>
      clear HK2 HB2 hgw2
      obtain ⟨k, ov, hk, rfl, hb, hgs, HK, HTO⟩ := hrel
      by_cases hlt : k < x.pat.args.length
      · obtain ⟨b, off, rfl, -, -, e0⟩ := (HPT.out.up hb).1.at hlt
        have i1 : (0 : Int) ≤ (k : Int) := by omega
        have i2 : (k : Int) < (x.pat.args.length : Int) := by omega
        have HM : Hid ((x.pat.args.take (k + 1)).map (renT y) = (x.pat.args.take k).map (renT y) ++ [renT y x.pat.args[k]]) := map_take_succ hlt
        have hl : ((x.pat.args.take k).map (renT y)).length = k := by simp; omega
        have HBk := Lib.hid hb
        have k2 : wr.cell? ⟨g, 2, none⟩ = some ov := HK.out.cell 2
        go_wp2_with fail
        clear e0
        have k2d : wr.drew.cell? ⟨g, 2, none⟩ = some ov := (HK.out.up (Up.rf _).dr).cell 2
        go_region_law
          (first
            | (refine step_append_lies _ (by rfl) _ _ _ (by rfl) (g + 1) 9 i0 _ 1 16 Try.underlying22 hi0 hz0 hz1 hz2 ?_ ?_ ov ((x.pat.args.take k).map (renT y)).length (((x.pat.args.take k).map (renT y)).map Value.string) ?_ (HTO5.out.1.1.alloc _) ⟨w5.heap.size, 0, none⟩ 1 1 [.string (renT y x.pat.args[k])] ?_ ?_ ?_ ?_ ?_ ?_ ?_ ?_ (w5.heap.size + 1) ?_ ?_
               · rfl
               · omega
               · rfl
               · rfl
               · rfl
               · exact (news1 (Blk.new w5 9 #[.string (renT y x.pat.args[k])]))
               · exact (one1 rfl)
               · omega
               · rw [hl]; unfold maxLen; omega
               · rw [hl]; omega
               · simp; omega
               · simp
               intro gg cp w6 hown' hgrow hat hltg
               have hne : ov.ownBlock ≠ some g := (fun h => by have := (HTO5.out.1.1.lt _ h).1; omega)
               have HKF6 : Hid (Blk w6 g 32 #[.int .i64 x.kind, .string x.pat.rel, ov, .string (renT y x.left), .string (renT y x.right)]) := ((hgrow.block g (KF5.out.alloc (.cells #[.string (renT y x.pat.args[k])] 9)).lt (fun h => hne h.symm)).trans (KF5.out.alloc (.cells #[.string (renT y x.pat.args[k])] 9)))
               have HTO6 : Hid (TO 9 w6 (g + 1) w6.heap.size (.slice (some ⟨gg, 0, none⟩) (((x.pat.args.take k).map (renT y)).length + 1) cp) ((x.pat.args.take (k + 1)).map (renT y))) := (by show TO _ _ _ _ _ _; rw [HM.out]; exact TO.snoc hown')
               have HB6 : Hid (Up W w6) := (HB5.out.al _).grown hgrow (fun g' hg' => by have := (HTO5.out.1.1.lt g' hg').1; omega)
               have hs6 : w5.heap.size + 1 ≤ w6.heap.size := (by have := hgrow.size; simpa using this)
               have k2 : w6.cell? ⟨g, 2, none⟩ = some ov := HKF6.out.cell 2
               have f2 := HKF6.out.frozen 2
               clear hown' hgrow hat hltg hne)
            | (go_simp; go_at_call 80; (with_reducible refine (cRen (HY.out.up HBk.out.dr)).mono ?_); rintro e w5 ⟨rfl, b5⟩; have b5' : Up wr w5 := (Up.rf _).dr.tr b5; have KF5 := Lib.hid (HK.out.up b5'); have HTO5 := Lib.hid ((show Ob (TO 9) wr (g + 1) wr.heap.size ov ((x.pat.args.take k).map (renT y)) from ⟨HTO.out, Nat.le_refl _⟩).up b5'); have HB5 := Lib.hid (HBk.out.tr b5'); have h5s : wr.heap.size ≤ w5.heap.size := b5'.size; have k2 : w5.cell? ⟨g, 2, none⟩ = some ov := KF5.out.cell 2; have k2a : (w5.alloc (.cells #[.string (renT y x.pat.args[k])] 9)).cell? ⟨g, 2, none⟩ = some ov := (KF5.out.alloc _).cell 2; clear b5 b5'))
        all_goals
          go_wp2
          clear k2 f2
          have hT6 := HTO6.out
          rw [hl] at hT6
          have hK7 : Blk (w6.setCell ⟨g, 2, none⟩ (.slice (some ⟨gg, 0, none⟩) (k + 1) cp)) g 32 #[.int .i64 x.kind, .string x.pat.rel, .slice (some ⟨gg, 0, none⟩) (k + 1) cp, .string (renT y x.left), .string (renT y x.right)] := by have := HKF6.out.set_ 2 (.slice (some ⟨gg, 0, none⟩) (k + 1) cp); simpa using this
          have hB7 : Up W (w6.setCell ⟨g, 2, none⟩ (.slice (some ⟨gg, 0, none⟩) (k + 1) cp)) := HB6.out.setCell (p := ⟨g, 2, none⟩) hg _
          have hz7 : w6.heap.size = (w6.setCell ⟨g, 2, none⟩ (.slice (some ⟨gg, 0, none⟩) (k + 1) cp)).heap.size := by simp [World.setCell]
          have hT7 := (hT6.keep ((Stays.refl w6 (g + 1) w6.heap.size).setCell (p := ⟨g, 2, none⟩) (.inl (by simp)) (.slice (some ⟨gg, 0, none⟩) (k + 1) cp))).mono (Nat.le_refl _) (Nat.le_of_eq hz7)
          exact ⟨⟨k+1, _, by omega, by go_num, hB7, by omega, hK7, hT7⟩, by simp [intOf]; omega⟩
      · have hl : ((x.pat.args.take k).map (renT y)).length = k := by simp; omega
        obtain ⟨oa, oc, e6⟩ := HTO.out.tx.form
        rw [hl] at e6
        subst e6
        have hE : Hid ((x.pat.args.take k).map (renT y) = x.pat.args.map (renT y)) := by show _ = _; rw [List.take_of_length_le (by omega)]
        have KR5 := Lib.hid (KR.out.up hb)
        have HB5 := Lib.hid (HB.out.tr hb)
        clear hl hK hgw hB
        have g0 : wr.cell? ⟨g, 0, none⟩ = some (.int .i64 x.kind) := HK.out.cell 0
        have g1 : wr.cell? ⟨g, 1, none⟩ = some (.string x.pat.rel) := HK.out.cell 1
        have g2 : wr.cell? ⟨g, 2, none⟩ = some (.slice oa k oc) := HK.out.cell 2
        have g3 : wr.cell? ⟨g, 3, none⟩ = some (.string (renT y x.left)) := HK.out.cell 3
        have g4 : wr.cell? ⟨g, 4, none⟩ = some (.string (renT y x.right)) := HK.out.cell 4
        have r0 : wr.cell? ⟨w.heap.size + 1, 0, none⟩ = some (.int .i64 0) := KR5.out.cell 0
        have r1 : wr.cell? ⟨w.heap.size + 1, 1, none⟩ = some (.string ⟨#[]⟩) := KR5.out.cell 1
        have r2 : wr.cell? ⟨w.heap.size + 1, 2, none⟩ = some (.slice none 0 0) := KR5.out.cell 2
        have r3 : wr.cell? ⟨w.heap.size + 1, 3, none⟩ = some (.string ⟨#[]⟩) := KR5.out.cell 3
        have r4 : wr.cell? ⟨w.heap.size + 1, 4, none⟩ = some (.string ⟨#[]⟩) := KR5.out.cell 4
        have q0 := KR5.out.frozen 0
        have q1 := KR5.out.frozen 1
        have q2 := KR5.out.frozen 2
        have q3 := KR5.out.frozen 3
        have q4 := KR5.out.frozen 4
        go_wp2
        clear g0 g1 g2 g3 g4 r0 r1 r2 r3 r4 q0 q1 q2 q3 q4
        have hK : Blk (((((wr.setCell ⟨w.heap.size + 1, 0, none⟩ (.int .i64 x.kind)).setCell ⟨w.heap.size + 1, 1, none⟩ (.string x.pat.rel)).setCell ⟨w.heap.size + 1, 2, none⟩ (.slice oa k oc)).setCell ⟨w.heap.size + 1, 3, none⟩ (.string (renT y x.left))).setCell ⟨w.heap.size + 1, 4, none⟩ (.string (renT y x.right))) (w.heap.size + 1) 32 #[.int .i64 x.kind, .string x.pat.rel, .slice oa k oc, .string (renT y x.left), .string (renT y x.right)] := KR5.out.set5 _ _ _ _ _
        have hBz : Up w (((((wr.setCell ⟨w.heap.size + 1, 0, none⟩ (.int .i64 x.kind)).setCell ⟨w.heap.size + 1, 1, none⟩ (.string x.pat.rel)).setCell ⟨w.heap.size + 1, 2, none⟩ (.slice oa k oc)).setCell ⟨w.heap.size + 1, 3, none⟩ (.string (renT y x.left))).setCell ⟨w.heap.size + 1, 4, none⟩ (.string (renT y x.right))) := HB5.out.set5 (Nat.le_succ _) _ _ _ _ _
        have hsz : wr.heap.size = (((((wr.setCell ⟨w.heap.size + 1, 0, none⟩ (.int .i64 x.kind)).setCell ⟨w.heap.size + 1, 1, none⟩ (.string x.pat.rel)).setCell ⟨w.heap.size + 1, 2, none⟩ (.slice oa k oc)).setCell ⟨w.heap.size + 1, 3, none⟩ (.string (renT y x.left))).setCell ⟨w.heap.size + 1, 4, none⟩ (.string (renT y x.right))).heap.size := by simp [World.setCell]
        have hT := (HTO.out.keep (Stays.set5 (w := wr) (lo := g + 1) (hi := wr.heap.size) (g := w.heap.size + 1) (by have := HWS.out; omega) (.int .i64 x.kind) (.string x.pat.rel) (.slice oa k oc) (.string (renT y x.left)) (.string (renT y x.right)))).mono (show w.heap.size ≤ g + 1 by have := HWS.out; omega) (Nat.le_of_eq hsz)
        rw [hE.out] at hT
        clear hsz
        generalize (((((wr.setCell ⟨w.heap.size + 1, 0, none⟩ (.int .i64 x.kind)).setCell ⟨w.heap.size + 1, 1, none⟩ (.string x.pat.rel)).setCell ⟨w.heap.size + 1, 2, none⟩ (.slice oa k oc)).setCell ⟨w.heap.size + 1, 3, none⟩ (.string (renT y x.left))).setCell ⟨w.heap.size + 1, 4, none⟩ (.string (renT y x.right))) = W4 at *
        have e0 : W4.cell? ⟨w.heap.size + 1, 0, none⟩ = some (.int .i64 x.kind) := hK.cell 0
        have e1 : W4.cell? ⟨w.heap.size + 1, 1, none⟩ = some (.string x.pat.rel) := hK.cell 1
        have e2 : W4.cell? ⟨w.heap.size + 1, 2, none⟩ = some (.slice oa k oc) := hK.cell 2
        have e3 : W4.cell? ⟨w.heap.size + 1, 3, none⟩ = some (.string (renT y x.left)) := hK.cell 3
        have e4 : W4.cell? ⟨w.heap.size + 1, 4, none⟩ = some (.string (renT y x.right)) := hK.cell 4
        refine bodyPost_ret (v := .agg #[.int .i64 x.kind, .string x.pat.rel, .slice oa k oc, .string (renT y x.left), .string (renT y x.right)]) (by simp [results, Try.results20, go_sem, e0, e1, e2, e3, e4]) rfl ?_
        exact ⟨_, rfl, ⟨⟨_, rfl, hT⟩, Nat.le_refl _⟩, hBz⟩
set_option maxHeartbeats 4000000 in
set_option maxRecDepth 100000 in
theorem cRenameS {v vy : Value} {x : CondV} {y : Prs} {lo hi lo' hi' : Nat} {w : World} (h : Ob AC w lo hi v x) (hy : Ob SP w lo' hi' vy y) (hz : csz x ≤ 1048576) :
    Calls Try.prog 17 #[v, vy] w fun e w' => ∃ v', e = .returned v' ∧ Ob (CO 9) w' w.heap.size w'.heap.size v' (renC x y) ∧ Up w w' := by
  have hlen : x.pat.args.length ≤ 4194304 := by unfold csz fsz tsz at hz; omega
  obtain ⟨a, cap, rfl⟩ := h.1.form
  obtain ⟨ya, yc, rfl⟩ := hy.1.form
  obtain ⟨i0, hi0, hz0, hz1, hz2⟩ := info_parts Try.infoStr
  have hb0 : Up w ((w.alloc (.cells #[.int .i64 x.kind, .string x.pat.rel, .slice a x.pat.args.length cap, .string x.left, .string x.right] 32)).alloc (.cells #[.int .i64 0, .string ⟨#[]⟩, .slice none 0 0, .string ⟨#[]⟩, .string ⟨#[]⟩] 32)) := (Up.al1 _ _).al _
  have hk0 : Blk ((w.alloc (.cells #[.int .i64 x.kind, .string x.pat.rel, .slice a x.pat.args.length cap, .string x.left, .string x.right] 32)).alloc (.cells #[.int .i64 0, .string ⟨#[]⟩, .slice none 0 0, .string ⟨#[]⟩, .string ⟨#[]⟩] 32)) w.heap.size 32 #[.int .i64 x.kind, .string x.pat.rel, .slice a x.pat.args.length cap, .string x.left, .string x.right] := (Blk.new w 32 #[.int .i64 x.kind, .string x.pat.rel, .slice a x.pat.args.length cap, .string x.left, .string x.right]).alloc _
  have hk1 : Blk ((w.alloc (.cells #[.int .i64 x.kind, .string x.pat.rel, .slice a x.pat.args.length cap, .string x.left, .string x.right] 32)).alloc (.cells #[.int .i64 0, .string ⟨#[]⟩, .slice none 0 0, .string ⟨#[]⟩, .string ⟨#[]⟩] 32)) (w.heap.size + 1) 32 #[.int .i64 0, .string ⟨#[]⟩, .slice none 0 0, .string ⟨#[]⟩, .string ⟨#[]⟩] := by
    have := Blk.new (w.alloc (.cells #[.int .i64 x.kind, .string x.pat.rel, .slice a x.pat.args.length cap, .string x.left, .string x.right] 32)) 32 #[.int .i64 0, .string ⟨#[]⟩, .slice none 0 0, .string ⟨#[]⟩, .string ⟨#[]⟩]
    simpa using this
  have hws : ((w.alloc (.cells #[.int .i64 x.kind, .string x.pat.rel, .slice a x.pat.args.length cap, .string x.left, .string x.right] 32)).alloc (.cells #[.int .i64 0, .string ⟨#[]⟩, .slice none 0 0, .string ⟨#[]⟩, .string ⟨#[]⟩] 32)).heap.size = w.heap.size + 2 := by simp
  have HY := Lib.hid (hy.up hb0)
  have HPT := Lib.hid (AF.tx9 (Ob.pat (h.up hb0)))
  have KP := Lib.hid hk0; have KR := Lib.hid hk1; have HB := Lib.hid hb0
  clear h hy hb0 hk0 hk1 hz
  go_enter Try.func17, Try.ntmps17
  go_upto_region 1 with fail
  generalize ((w.alloc (.cells #[.int .i64 x.kind, .string x.pat.rel, .slice a x.pat.args.length cap, .string x.left, .string x.right] 32)).alloc (.cells #[.int .i64 0, .string ⟨#[]⟩, .slice none 0 0, .string ⟨#[]⟩, .string ⟨#[]⟩] 32)) = W at *
  have HWS := Lib.hid hws
  clear hws
  have c0 : W.cell? ⟨w.heap.size, 0, none⟩ = some (.int .i64 x.kind) := KP.out.cell 0
  have c1 : W.cell? ⟨w.heap.size, 1, none⟩ = some (.string x.pat.rel) := KP.out.cell 1
  have c3 : W.cell? ⟨w.heap.size, 3, none⟩ = some (.string x.left) := KP.out.cell 3
  have c4 : W.cell? ⟨w.heap.size, 4, none⟩ = some (.string x.right) := KP.out.cell 4
  have mk : Hid (∀ w', Up W w' → w'.cell? ⟨w.heap.size, 0, none⟩ = some (.int .i64 x.kind) ∧ w'.cell? ⟨w.heap.size, 1, none⟩ = some (.string x.pat.rel) ∧ w'.cell? ⟨w.heap.size, 3, none⟩ = some (.string x.left) ∧ w'.cell? ⟨w.heap.size, 4, none⟩ = some (.string x.right) ∧ Up W w') := Lib.hid fun w' hu => ⟨keepCell hu (KP.out.cell 0), keepCell hu (KP.out.cell 1), keepCell hu (KP.out.cell 3), keepCell hu (KP.out.cell 4), hu⟩
  go_cut [5] (fun s5 wx => ∃ g, s5 = .pointer (some ⟨g, 0, none⟩) ∧ W.heap.size ≤ g ∧ Blk wx g 32 #[.int .i64 x.kind, .string x.pat.rel, .slice none 0 0, .string (renT y x.left), .string (renT y x.right)] ∧ Up W wx)
  case first =>
    go_region_held3 (fun w' => w'.cell? ⟨w.heap.size, 0, none⟩ = some (.int .i64 x.kind) ∧ w'.cell? ⟨w.heap.size, 1, none⟩ = some (.string x.pat.rel) ∧ w'.cell? ⟨w.heap.size, 3, none⟩ = some (.string x.left) ∧ w'.cell? ⟨w.heap.size, 4, none⟩ = some (.string x.right) ∧ Up W w')
      (first
        | (with_reducible exact mk.out _ (Up.rf _).dr)
        | (with_reducible exact mk.out _ ((Up.rf _).al _).dr))
      (first
        | (go_at_call 78; (with_reducible refine (cRenS (HY.out.up (by first | (with_reducible exact (Up.rf _).dr) | (with_reducible exact ((Up.rf _).al _).dr)))).mono ?_); rintro e w1 ⟨rfl, rfl⟩))
    all_goals
      go_wp2_with fail
      go_meet
      case rel => exact ⟨_, rfl, Nat.le_refl _, (Blk.new W 32 #[.int .i64 x.kind, .string x.pat.rel, .slice none 0 0, .string (renT y x.left), .string (renT y x.right)]).up (Up.rf _).dr, ((Up.rf _).al _).dr⟩
  case rest =>
    obtain ⟨g, rfl, hg, hK, hB⟩ := hcut
    clear c0 c1 c3 c4 mk
    have hgw := hK.lt
    have HK2 := Lib.hid hK
    have HB2 := Lib.hid hB
    go_wp2_with fail
    go_loopw [6] (fun i wr => ∃ (k : Nat) (ov : Value), k ≤ x.pat.args.length ∧ i = .int .i64 k ∧ Up W wr ∧ g < wr.heap.size ∧ Hid (Blk wr g 32 #[.int .i64 x.kind, .string x.pat.rel, ov, .string (renT y x.left), .string (renT y x.right)]) ∧ Hid (TO 9 wr (g + 1) wr.heap.size ov ((x.pat.args.take k).map (renT y)))) (fun i _ => x.pat.args.length - (intOf i).toNat)
    case atStart => exact ⟨0, _, Nat.zero_le _, rfl, HB2.out, hgw, HK2.out, TO.nil_ _ _ _ _⟩
    case round =>
      clear HK2 HB2
      obtain ⟨k, ov, hk, rfl, hb, hgs, HK, HTO⟩ := hrel
      have m2 : wr.cell? ⟨w.heap.size, 2, none⟩ = some (.slice a x.pat.args.length cap) := (KP.out.up hb).cell 2
      by_cases hlt : k < x.pat.args.length
      · obtain ⟨b, off, rfl, -, -, e0⟩ := (HPT.out.up hb).1.at hlt
        have i1 : (0 : Int) ≤ (k : Int) := by omega
        have i2 : (k : Int) < (x.pat.args.length : Int) := by omega
        have HM : Hid ((x.pat.args.take (k + 1)).map (renT y) = (x.pat.args.take k).map (renT y) ++ [renT y x.pat.args[k]]) := map_take_succ hlt
        have hl : ((x.pat.args.take k).map (renT y)).length = k := by simp; omega
        have HBk := Lib.hid hb
        have k2 : wr.cell? ⟨g, 2, none⟩ = some ov := HK.out.cell 2
        go_wp2_with fail
        have k2d : wr.drew.cell? ⟨g, 2, none⟩ = some ov := (HK.out.up (Up.rf _).dr).cell 2
        have k2a : (wr.alloc (.cells #[.string (renT y x.pat.args[k])] 9)).drew.cell? ⟨g, 2, none⟩ = some ov := ((HK.out.alloc (.cells #[.string (renT y x.pat.args[k])] 9)).up (Up.rf _).dr).cell 2
        have KFd := Lib.hid ((HK.out.alloc (.cells #[.string (renT y x.pat.args[k])] 9)).up (Up.rf _).dr)
        have HBd := Lib.hid ((hb.al (.cells #[.string (renT y x.pat.args[k])] 9)).dr)
        go_region_law
          (first
            | (refine step_append_lies _ (by rfl) _ _ _ (by rfl) (g + 1) 9 i0 _ 1 16 Try.underlying22 hi0 hz0 hz1 hz2 ?_ ?_ ov ((x.pat.args.take k).map (renT y)).length (((x.pat.args.take k).map (renT y)).map Value.string) ?_ ((HTO.out.1.alloc _).drew) ⟨wr.heap.size, 0, none⟩ 1 1 [.string (renT y x.pat.args[k])] ?_ ?_ ?_ ?_ ?_ ?_ ?_ ?_ (wr.heap.size + 1) ?_ ?_
               · rfl
               · omega
               · rfl
               · rfl
               · rfl
               · exact (news1 ((Blk.new wr 9 #[.string (renT y x.pat.args[k])]).up (Up.rf _).dr))
               · exact (one1 rfl)
               · omega
               · rw [hl]; unfold maxLen; omega
               · rw [hl]; omega
               · simp; omega
               · simp
               intro gg cp w6 hown' hgrow hat hltg
               have hne : ov.ownBlock ≠ some g := (fun h => by have := (HTO.out.1.lt _ h).1; omega)
               have HKF6 : Hid (Blk w6 g 32 #[.int .i64 x.kind, .string x.pat.rel, ov, .string (renT y x.left), .string (renT y x.right)]) := ((hgrow.block g KFd.out.lt (fun h => hne h.symm)).trans KFd.out)
               have HTO6 : Hid (TO 9 w6 (g + 1) w6.heap.size (.slice (some ⟨gg, 0, none⟩) (((x.pat.args.take k).map (renT y)).length + 1) cp) ((x.pat.args.take (k + 1)).map (renT y))) := (by show TO _ _ _ _ _ _; rw [HM.out]; exact TO.snoc hown')
               have HB6 : Hid (Up W w6) := HBd.out.grown hgrow (fun g' hg' => by have := (HTO.out.1.lt g' hg').1; omega)
               have hs6 : wr.heap.size + 1 ≤ w6.heap.size := (by have := hgrow.size; simpa using this)
               have k2 : w6.cell? ⟨g, 2, none⟩ = some ov := HKF6.out.cell 2
               have f2 := HKF6.out.frozen 2
               clear hown' hgrow hat hltg hne)
            | (go_simp; go_at_call 78; (with_reducible refine (cRenS (HY.out.up HBk.out.dr)).mono ?_); rintro e w5 ⟨rfl, rfl⟩))
        all_goals
          go_wp2
          clear k2 f2
          have hT6 := HTO6.out
          rw [hl] at hT6
          have hK7 : Blk (w6.setCell ⟨g, 2, none⟩ (.slice (some ⟨gg, 0, none⟩) (k + 1) cp)) g 32 #[.int .i64 x.kind, .string x.pat.rel, .slice (some ⟨gg, 0, none⟩) (k + 1) cp, .string (renT y x.left), .string (renT y x.right)] := by have := HKF6.out.set_ 2 (.slice (some ⟨gg, 0, none⟩) (k + 1) cp); simpa using this
          have hB7 : Up W (w6.setCell ⟨g, 2, none⟩ (.slice (some ⟨gg, 0, none⟩) (k + 1) cp)) := HB6.out.setCell (p := ⟨g, 2, none⟩) hg _
          have hz7 : w6.heap.size = (w6.setCell ⟨g, 2, none⟩ (.slice (some ⟨gg, 0, none⟩) (k + 1) cp)).heap.size := by simp [World.setCell]
          have hT7 := (hT6.keep ((Stays.refl w6 (g + 1) w6.heap.size).setCell (p := ⟨g, 2, none⟩) (.inl (by simp)) (.slice (some ⟨gg, 0, none⟩) (k + 1) cp))).mono (Nat.le_refl _) (Nat.le_of_eq hz7)
          exact ⟨⟨k+1, _, by omega, by go_num, hB7, by omega, hK7, hT7⟩, by simp [intOf]; omega⟩
      · have hl : ((x.pat.args.take k).map (renT y)).length = k := by simp; omega
        obtain ⟨oa, oc, e6⟩ := HTO.out.tx.form
        rw [hl] at e6
        subst e6
        have hE : Hid ((x.pat.args.take k).map (renT y) = x.pat.args.map (renT y)) := by show _ = _; rw [List.take_of_length_le (by omega)]
        have KR5 := Lib.hid (KR.out.up hb)
        have HB5 := Lib.hid (HB.out.tr hb)
        clear hl hK hgw hB
        have g0 : wr.cell? ⟨g, 0, none⟩ = some (.int .i64 x.kind) := HK.out.cell 0
        have g1 : wr.cell? ⟨g, 1, none⟩ = some (.string x.pat.rel) := HK.out.cell 1
        have g2 : wr.cell? ⟨g, 2, none⟩ = some (.slice oa k oc) := HK.out.cell 2
        have g3 : wr.cell? ⟨g, 3, none⟩ = some (.string (renT y x.left)) := HK.out.cell 3
        have g4 : wr.cell? ⟨g, 4, none⟩ = some (.string (renT y x.right)) := HK.out.cell 4
        have r0 : wr.cell? ⟨w.heap.size + 1, 0, none⟩ = some (.int .i64 0) := KR5.out.cell 0
        have r1 : wr.cell? ⟨w.heap.size + 1, 1, none⟩ = some (.string ⟨#[]⟩) := KR5.out.cell 1
        have r2 : wr.cell? ⟨w.heap.size + 1, 2, none⟩ = some (.slice none 0 0) := KR5.out.cell 2
        have r3 : wr.cell? ⟨w.heap.size + 1, 3, none⟩ = some (.string ⟨#[]⟩) := KR5.out.cell 3
        have r4 : wr.cell? ⟨w.heap.size + 1, 4, none⟩ = some (.string ⟨#[]⟩) := KR5.out.cell 4
        have q0 := KR5.out.frozen 0
        have q1 := KR5.out.frozen 1
        have q2 := KR5.out.frozen 2
        have q3 := KR5.out.frozen 3
        have q4 := KR5.out.frozen 4
        go_wp2
        clear g0 g1 g2 g3 g4 r0 r1 r2 r3 r4 q0 q1 q2 q3 q4
        have hK : Blk (((((wr.setCell ⟨w.heap.size + 1, 0, none⟩ (.int .i64 x.kind)).setCell ⟨w.heap.size + 1, 1, none⟩ (.string x.pat.rel)).setCell ⟨w.heap.size + 1, 2, none⟩ (.slice oa k oc)).setCell ⟨w.heap.size + 1, 3, none⟩ (.string (renT y x.left))).setCell ⟨w.heap.size + 1, 4, none⟩ (.string (renT y x.right))) (w.heap.size + 1) 32 #[.int .i64 x.kind, .string x.pat.rel, .slice oa k oc, .string (renT y x.left), .string (renT y x.right)] := KR5.out.set5 _ _ _ _ _
        have hBz : Up w (((((wr.setCell ⟨w.heap.size + 1, 0, none⟩ (.int .i64 x.kind)).setCell ⟨w.heap.size + 1, 1, none⟩ (.string x.pat.rel)).setCell ⟨w.heap.size + 1, 2, none⟩ (.slice oa k oc)).setCell ⟨w.heap.size + 1, 3, none⟩ (.string (renT y x.left))).setCell ⟨w.heap.size + 1, 4, none⟩ (.string (renT y x.right))) := HB5.out.set5 (Nat.le_succ _) _ _ _ _ _
        have hsz : wr.heap.size = (((((wr.setCell ⟨w.heap.size + 1, 0, none⟩ (.int .i64 x.kind)).setCell ⟨w.heap.size + 1, 1, none⟩ (.string x.pat.rel)).setCell ⟨w.heap.size + 1, 2, none⟩ (.slice oa k oc)).setCell ⟨w.heap.size + 1, 3, none⟩ (.string (renT y x.left))).setCell ⟨w.heap.size + 1, 4, none⟩ (.string (renT y x.right))).heap.size := by simp [World.setCell]
        have hT := (HTO.out.keep (Stays.set5 (w := wr) (lo := g + 1) (hi := wr.heap.size) (g := w.heap.size + 1) (by have := HWS.out; omega) (.int .i64 x.kind) (.string x.pat.rel) (.slice oa k oc) (.string (renT y x.left)) (.string (renT y x.right)))).mono (show w.heap.size ≤ g + 1 by have := HWS.out; omega) (Nat.le_of_eq hsz)
        rw [hE.out] at hT
        clear hsz
        generalize (((((wr.setCell ⟨w.heap.size + 1, 0, none⟩ (.int .i64 x.kind)).setCell ⟨w.heap.size + 1, 1, none⟩ (.string x.pat.rel)).setCell ⟨w.heap.size + 1, 2, none⟩ (.slice oa k oc)).setCell ⟨w.heap.size + 1, 3, none⟩ (.string (renT y x.left))).setCell ⟨w.heap.size + 1, 4, none⟩ (.string (renT y x.right))) = W4 at *
        have e0 : W4.cell? ⟨w.heap.size + 1, 0, none⟩ = some (.int .i64 x.kind) := hK.cell 0
        have e1 : W4.cell? ⟨w.heap.size + 1, 1, none⟩ = some (.string x.pat.rel) := hK.cell 1
        have e2 : W4.cell? ⟨w.heap.size + 1, 2, none⟩ = some (.slice oa k oc) := hK.cell 2
        have e3 : W4.cell? ⟨w.heap.size + 1, 3, none⟩ = some (.string (renT y x.left)) := hK.cell 3
        have e4 : W4.cell? ⟨w.heap.size + 1, 4, none⟩ = some (.string (renT y x.right)) := hK.cell 4
        refine bodyPost_ret (v := .agg #[.int .i64 x.kind, .string x.pat.rel, .slice oa k oc, .string (renT y x.left), .string (renT y x.right)]) (by simp [results, Try.results17, go_sem, e0, e1, e2, e3, e4]) rfl ?_
        exact ⟨_, rfl, ⟨⟨_, rfl, hT⟩, Nat.le_refl _⟩, hBz⟩
end Go.Proofs.Ytojgkodffmdnpaa
