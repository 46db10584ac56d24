/- The variables of a condition, the program's and the reference's; wherever the lengths can be counted. -/
import Derived.Test.YtojgkodffmdnpaaVars
namespace Go.Proofs.Ytojgkodffmdnpaa
open Go.RowKit
attribute [local go_sem ↓] Go.wp_at_zero Go.wp_at_succ
set_option linter.unusedVariables false
theorem AC.cells5 {w : World} {lo hi : Nat} {x : CondV} {a : Option Addr} {cap : Nat} {g : Nat} {t : TypeId} (hK : Blk w g t #[.int .i64 x.kind, .string x.pat.rel, .slice a x.pat.args.length cap, .string x.left, .string x.right]) :
    w.cell? ⟨g, 0, none⟩ = some (.int .i64 x.kind) ∧ w.cell? ⟨g, 1, none⟩ = some (.string x.pat.rel) ∧ w.cell? ⟨g, 2, none⟩ = some (.slice a x.pat.args.length cap) ∧ w.cell? ⟨g, 3, none⟩ = some (.string x.left) ∧ w.cell? ⟨g, 4, none⟩ = some (.string x.right) :=
  ⟨hK.cell 0, hK.cell 1, hK.cell 2, hK.cell 3, hK.cell 4⟩
theorem TO.two {E : TypeId} {w : World} {lo : Nat} {v : Value} {L : List ByteArray} {a b : ByteArray} (h : w.ownsRow lo E 1 v (L.length + 2) (L.map Value.string ++ [.string a, .string b])) : TO E w lo w.heap.size v (L ++ [a, b]) :=
  TO.app (M := [a, b]) h
set_option maxHeartbeats 2000000 in
set_option maxRecDepth 100000 in
theorem cTerms {v : Value} {x : CondV} {lo hi : Nat} {w : World} (h : Ob AC w lo hi v x) (hz : csz x ≤ 1048576) :
    Calls Try.prog 116 #[v] w fun e w' => ∃ v', e = .returned v' ∧ Ob (TO 9) w' w.heap.size w'.heap.size v' (termsC x) ∧ Up w w' := by
  have hlen : x.pat.args.length ≤ 4194304 := by unfold csz fsz tsz at hz; omega
  obtain ⟨a, cap, rfl⟩ := h.1.form
  obtain ⟨i0, hi0, hz0, hz1, hz2⟩ := info_parts Try.infoStr
  have hb0 : Up w (w.alloc (.cells #[.int .i64 x.kind, .string x.pat.rel, .slice a x.pat.args.length cap, .string x.left, .string x.right] 32)) := Up.al1 _ _
  have HT := Lib.hid (AF.tx9 (Ob.pat (h.up hb0)))
  have HB := Lib.hid hb0
  have hK := Blk.new w 32 #[.int .i64 x.kind, .string x.pat.rel, .slice a x.pat.args.length cap, .string x.left, .string x.right]
  have hws : (w.alloc (.cells #[.int .i64 x.kind, .string x.pat.rel, .slice a x.pat.args.length cap, .string x.left, .string x.right] 32)).heap.size = w.heap.size + 1 := by simp
  clear h hb0 hz
  go_enter Try.func116, Try.ntmps116
  go_wp2_with fail
  generalize (w.alloc (.cells #[.int .i64 x.kind, .string x.pat.rel, .slice a x.pat.args.length cap, .string x.left, .string x.right] 32)) = W at *
  have c2 : W.cell? ⟨w.heap.size, 2, none⟩ = some (.slice a x.pat.args.length cap) := hK.cell 2
  have c3 : W.cell? ⟨w.heap.size, 3, none⟩ = some (.string x.left) := hK.cell 3
  have c4 : W.cell? ⟨w.heap.size, 4, none⟩ = some (.string x.right) := hK.cell 4
  have HWS := Lib.hid hws
  clear hws hK
  go_region_held3 (fun w' => w'.cell? ⟨w.heap.size, 2, none⟩ = some (.slice a x.pat.args.length cap) ∧ w'.cell? ⟨w.heap.size, 3, none⟩ = some (.string x.left) ∧ w'.cell? ⟨w.heap.size, 4, none⟩ = some (.string x.right) ∧ Up W w')
    (first
      | exact ⟨c2, c3, c4, (Up.rf _).dr⟩
      | (have hh := ‹_ ∧ _ ∧ _ ∧ _›; have hb := ‹Up _ _›; exact ⟨keepCell hb hh.1, keepCell hb hh.2.1, keepCell hb hh.2.2.1, hh.2.2.2.tr hb⟩)
      | (have hh := ‹_ ∧ _ ∧ _ ∧ _›; exact ⟨keepCell (Up.al1 _ _) hh.1, keepCell (Up.al1 _ _) hh.2.1, keepCell (Up.al1 _ _) hh.2.2.1, hh.2.2.2.al _⟩)
      | (have hh := ‹_ ∧ _ ∧ _ ∧ _›; exact ⟨hgrow.cell hh.1 hne, hgrow.cell hh.2.1 hne, hgrow.cell hh.2.2.1 hne, hU3⟩))
    (first
      | (go_at_call 128; have hh := ‹_ ∧ _ ∧ _ ∧ _›; have b6 := hh.2.2.2; (with_reducible refine (cCopyT (HT.out.up hh.2.2.2) hlen).mono ?_); clear hh; rintro e w1 ⟨u, rfl, ho, b1⟩)
      | (refine step_append_lies _ (by rfl) _ _ _ (by rfl) W.heap.size 9 i0 _ 1 16 Try.underlying22 hi0 hz0 hz1 hz2 ?_ ?_ u x.pat.args.length (x.pat.args.map Value.string) ?_ (ho.1.1.alloc _) ⟨w1.heap.size, 0, none⟩ 2 2 [.string x.left, .string x.right] ?_ ?_ ?_ ?_ ?_ ?_ ?_ ?_ (w1.heap.size + 1) ?_ ?_
         · rfl
         · omega
         · rfl
         · rfl
         · rfl
         · exact (news2 (Blk.new w1 9 #[.string x.left, .string x.right]))
         · exact (one2 rfl rfl)
         · omega
         · unfold maxLen; omega
         · omega
         · exact Nat.le_trans (Up.tr b6 b1).size (Up.al1 _ _).size
         · simp
         intro gg cp w3 hown' hgrow hat hltg
         have hne : some w.heap.size ≠ u.ownBlock := (fun h => by have h1 : W.heap.size ≤ w.heap.size := (ho.1.1.lt _ h.symm).1; have := HWS.out; omega)
         have hU3 : Up W w3 := ((Up.tr b6 b1).al _).grown hgrow (fun g hg => (ho.1.1.lt g hg).1)
         have hlo : w.heap.size ≤ W.heap.size := HB.out.size)
      | (refine step_append_lies _ (by rfl) _ _ _ (by rfl) (W.heap.size + 1) 9 i0 _ 1 16 Try.underlying22 hi0 hz0 hz1 hz2 ?_ ?_ u x.pat.args.length (x.pat.args.map Value.string) ?_ ?_ ⟨W.heap.size, 0, none⟩ 2 2 [.string x.left, .string x.right] ?_ ?_ ?_ ?_ ?_ ?_ ?_ ?_ (w1.heap.size) ?_ ?_
         · rfl
         · omega
         · rfl
         · simpa using ho.1.1
         · rfl
         · rfl
         · exact (news2 ((Blk.new W.drew 9 #[.string x.left, .string x.right]).up b1))
         · exact (one2 rfl rfl)
         · omega
         · unfold maxLen; omega
         · omega
         · have := b1.size; simp at this; omega
         · rfl
         intro gg cp w3 hown' hgrow hat hltg
         have hne : some w.heap.size ≠ u.ownBlock := (fun h => by have h1 := (ho.1.1.lt _ h.symm).1; simp at h1; have := HWS.out; omega)
         have hU3 : Up W w3 := (Up.tr b6 b1).grown hgrow (fun g hg => by have h1 := (ho.1.1.lt g hg).1; simp at h1; omega)
         have hlo : w.heap.size ≤ W.heap.size + 1 := Nat.le_succ_of_le HB.out.size))
  all_goals
    have hT3 : Hid (Ob (TO 9) w3 w.heap.size w3.heap.size _ (termsC x)) := ⟨(TO.two hown').mono hlo (Nat.le_refl _), Nat.le_refl _⟩
    have HB3 := Lib.hid (HB.out.tr hU3)
    clear hown' hgrow hat hltg hne hU3 ho b6 b1 c2 c3 c4 hlo
    go_wp2
    go_ret
    exact ⟨_, rfl, hT3.out, HB3.out⟩
set_option maxHeartbeats 1000000 in
theorem cCondVars {v : Value} {x : CondV} {lo hi : Nat} {w : World} (h : Ob AC w lo hi v x) (hz : csz x ≤ 1048576) :
    Calls Try.prog 74 #[v] w fun e w' => ∃ v', e = .returned v' ∧ Ob (TO 9) w' w.heap.size w'.heap.size v' (varsC x) ∧ Up w w' := by
  have hz2 : tsz (termsC x) ≤ 4194304 := by have := termsC_tsz x; omega
  have hz3 : (vars (termsC x)).length ≤ 4194304 := by have := vars_len (termsC x); have := tsz_len hz2; omega
  obtain ⟨a, cap, rfl⟩ := h.1.form
  have hb0 : Up w (w.alloc (.cells #[.int .i64 x.kind, .string x.pat.rel, .slice a x.pat.args.length cap, .string x.left, .string x.right] 32)) := Up.al1 _ _
  have HC := Lib.hid (h.up hb0)
  have HB := Lib.hid hb0
  have hs0 := hb0.size
  clear h hb0
  go_enter Try.func74, Try.ntmps74
  go_wp2_with fail
  generalize (w.alloc (.cells #[.int .i64 x.kind, .string x.pat.rel, .slice a x.pat.args.length cap, .string x.left, .string x.right] 32)) = W at *
  refine (cTerms HC.out hz).mono ?_
  rintro e w1 ⟨v1, rfl, ho, b1⟩
  have HO := Lib.hid ho.tx
  have HB1 := Lib.hid (HB.out.tr b1)
  have hs1 := b1.size
  clear ho b1
  go_wp2_with fail
  refine (cVars HO.out hz2).mono ?_
  rintro e w2 ⟨v2, rfl, ho, b2⟩
  have HO2 := Lib.hid ho.tx
  have HB2 := Lib.hid (HB1.out.tr b2)
  have hs2 := b2.size
  clear ho b2
  go_wp2_with fail
  refine (cSorted HO2.out hz3).mono ?_
  rintro e w3 ⟨v3, rfl, ho, b3⟩
  have HO3 := Lib.hid (show Ob (TO 9) w3 w.heap.size w3.heap.size v3 (varsC x) from ⟨ho.1.mono (by omega) (Nat.le_refl _), Nat.le_refl _⟩)
  have HB3 := Lib.hid (HB2.out.tr b3)
  clear ho b3
  go_wp2
  go_ret
  exact ⟨_, rfl, HO3.out, HB3.out⟩
set_option maxHeartbeats 1000000 in
theorem cCondVarsS {v : Value} {x : CondV} {lo hi : Nat} {w : World} (h : Ob AC w lo hi v x) (hz : csz x ≤ 1048576) :
    Calls Try.prog 73 #[v] w fun e w' => ∃ v', e = .returned v' ∧ Ob (TO 9) w' w.heap.size w'.heap.size v' (varsC x) ∧ Up w w' := by
  have hz1 : fsz x.pat ≤ 1048576 := by unfold csz at hz; omega
  have s3 : x.left.size ≤ maxLen := by unfold csz at hz; unfold maxLen; omega
  have s4 : x.right.size ≤ maxLen := by unfold csz at hz; unfold maxLen; omega
  have l1 : (varsP x.pat).length ≤ 4194304 := by have := varsP_tsz x.pat; have := tsz_len (L := varsP x.pat) (n := 1048576) (by omega); omega
  have l2 : (putT (varsP x.pat) x.left).length ≤ 4194304 := by
    have h1 := putT_tsum (varsP x.pat) x.left
    have h2 := varsP_tsz x.pat
    have h3 := putT_len (varsP x.pat) x.left
    unfold tsz at h2; omega
  have HE := Lib.hid (varsC_eq x)
  obtain ⟨a, cap, rfl⟩ := h.1.form
  have hb0 : Up w (w.alloc (.cells #[.int .i64 x.kind, .string x.pat.rel, .slice a x.pat.args.length cap, .string x.left, .string x.right] 32)) := Up.al1 _ _
  have HP := Lib.hid (Ob.pat (h.up hb0))
  have HK := Lib.hid (AC.cells5 (x := x) (lo := lo) (hi := hi) (Blk.new w 32 #[.int .i64 x.kind, .string x.pat.rel, .slice a x.pat.args.length cap, .string x.left, .string x.right]))
  have HB := Lib.hid hb0
  have hs0 := hb0.size
  clear h hb0 hz
  cases hl : isVarB x.left <;> cases hr : isVarB x.right
  all_goals
    have HE' := HE.out
    simp only [hl, hr, if_true, if_false, Bool.false_eq_true] at HE'
    replace HE := Lib.hid HE'
    clear HE'
  · -- 0 0
    obtain ⟨-, k1, k2, k3, k4⟩ := HK.out
    go_enter Try.func73, Try.ntmps73
    go_wp2_with fail
    generalize (w.alloc (.cells #[.int .i64 x.kind, .string x.pat.rel, .slice a x.pat.args.length cap, .string x.left, .string x.right] 32)) = W at *
    refine (cVarsOfS HP.out hz1).mono ?_
    rintro e w1 ⟨v1, rfl, ho, b1⟩
    have q3 := keepCell b1 k3
    have q4 := keepCell b1 k4
    have HO := Lib.hid (show Ob (TO 9) w1 w.heap.size w1.heap.size v1 (varsP x.pat) from ⟨ho.1.mono hs0 (Nat.le_refl _), Nat.le_refl _⟩)
    have HB1 := Lib.hid (HB.out.tr b1)
    have hs1 : w.heap.size ≤ w1.heap.size := HB1.out.size
    clear ho b1 k1 k2 k3 k4
    go_wp2_with fail
    refine (varS_any _ _ s3).mono ?_
    rintro e w2 ⟨rfl, rfl⟩
    go_wp2_with fail
    refine (varS_any _ _ s4).mono ?_
    rintro e w4 ⟨rfl, rfl⟩
    go_wp2_with fail
    go_ret
    exact ⟨_, rfl, by rw [HE.out]; exact HO.out, HB1.out⟩
  · -- 0 1
    obtain ⟨-, k1, k2, k3, k4⟩ := HK.out
    go_enter Try.func73, Try.ntmps73
    go_wp2_with fail
    generalize (w.alloc (.cells #[.int .i64 x.kind, .string x.pat.rel, .slice a x.pat.args.length cap, .string x.left, .string x.right] 32)) = W at *
    refine (cVarsOfS HP.out hz1).mono ?_
    rintro e w1 ⟨v1, rfl, ho, b1⟩
    have q3 := keepCell b1 k3
    have q4 := keepCell b1 k4
    have HO := Lib.hid (show Ob (TO 9) w1 w.heap.size w1.heap.size v1 (varsP x.pat) from ⟨ho.1.mono hs0 (Nat.le_refl _), Nat.le_refl _⟩)
    have HB1 := Lib.hid (HB.out.tr b1)
    have hs1 : w.heap.size ≤ w1.heap.size := HB1.out.size
    clear ho b1 k1 k2 k3 k4
    go_wp2_with fail
    refine (varS_any _ _ s3).mono ?_
    rintro e w2 ⟨rfl, rfl⟩
    go_wp2_with fail
    refine (varS_any _ _ s4).mono ?_
    rintro e w4 ⟨rfl, rfl⟩
    go_wp2_with fail
    refine (cl1Put HO.out.tx l1).mono ?_
    rintro e w5 ⟨v5, rfl, ho, b5⟩
    have HO5 := Lib.hid (show Ob (TO 9) w5 w.heap.size w5.heap.size v5 (putT (varsP x.pat) x.right) from ⟨ho.1.mono (by omega) (Nat.le_refl _), Nat.le_refl _⟩)
    have HB5 := Lib.hid (HB1.out.tr b5)
    clear ho b5
    go_wp2
    go_ret
    exact ⟨_, rfl, by rw [HE.out]; exact HO5.out, HB5.out⟩
  · -- 1 0
    obtain ⟨-, k1, k2, k3, k4⟩ := HK.out
    go_enter Try.func73, Try.ntmps73
    go_wp2_with fail
    generalize (w.alloc (.cells #[.int .i64 x.kind, .string x.pat.rel, .slice a x.pat.args.length cap, .string x.left, .string x.right] 32)) = W at *
    refine (cVarsOfS HP.out hz1).mono ?_
    rintro e w1 ⟨v1, rfl, ho, b1⟩
    have q3 := keepCell b1 k3
    have q4 := keepCell b1 k4
    have HO := Lib.hid (show Ob (TO 9) w1 w.heap.size w1.heap.size v1 (varsP x.pat) from ⟨ho.1.mono hs0 (Nat.le_refl _), Nat.le_refl _⟩)
    have HB1 := Lib.hid (HB.out.tr b1)
    have hs1 : w.heap.size ≤ w1.heap.size := HB1.out.size
    clear ho b1 k1 k2 k3 k4
    go_wp2_with fail
    refine (varS_any _ _ s3).mono ?_
    rintro e w2 ⟨rfl, rfl⟩
    go_wp2_with fail
    refine (cl1Put HO.out.tx l1).mono ?_
    rintro e w3 ⟨v3, rfl, ho, b3⟩
    have r4 := keepCell b3 q4
    have HO3 := Lib.hid (show Ob (TO 9) w3 w.heap.size w3.heap.size v3 (putT (varsP x.pat) x.left) from ⟨ho.1.mono (by omega) (Nat.le_refl _), Nat.le_refl _⟩)
    have HB3 := Lib.hid (HB1.out.tr b3)
    have hs3 : w.heap.size ≤ w3.heap.size := HB3.out.size
    clear ho b3 HO q3 q4
    go_wp2_with fail
    refine (varS_any _ _ s4).mono ?_
    rintro e w4 ⟨rfl, rfl⟩
    go_wp2_with fail
    go_ret
    exact ⟨_, rfl, by rw [HE.out]; exact HO3.out, HB3.out⟩
  · -- 1 1
    obtain ⟨-, k1, k2, k3, k4⟩ := HK.out
    go_enter Try.func73, Try.ntmps73
    go_wp2_with fail
    generalize (w.alloc (.cells #[.int .i64 x.kind, .string x.pat.rel, .slice a x.pat.args.length cap, .string x.left, .string x.right] 32)) = W at *
    refine (cVarsOfS HP.out hz1).mono ?_
    rintro e w1 ⟨v1, rfl, ho, b1⟩
    have q3 := keepCell b1 k3
    have q4 := keepCell b1 k4
    have HO := Lib.hid (show Ob (TO 9) w1 w.heap.size w1.heap.size v1 (varsP x.pat) from ⟨ho.1.mono hs0 (Nat.le_refl _), Nat.le_refl _⟩)
    have HB1 := Lib.hid (HB.out.tr b1)
    have hs1 : w.heap.size ≤ w1.heap.size := HB1.out.size
    clear ho b1 k1 k2 k3 k4
    go_wp2_with fail
    refine (varS_any _ _ s3).mono ?_
    rintro e w2 ⟨rfl, rfl⟩
    go_wp2_with fail
    refine (cl1Put HO.out.tx l1).mono ?_
    rintro e w3 ⟨v3, rfl, ho, b3⟩
    have r4 := keepCell b3 q4
    have HO3 := Lib.hid (show Ob (TO 9) w3 w.heap.size w3.heap.size v3 (putT (varsP x.pat) x.left) from ⟨ho.1.mono (by omega) (Nat.le_refl _), Nat.le_refl _⟩)
    have HB3 := Lib.hid (HB1.out.tr b3)
    have hs3 : w.heap.size ≤ w3.heap.size := HB3.out.size
    clear ho b3 HO q3 q4
    go_wp2_with fail
    refine (varS_any _ _ s4).mono ?_
    rintro e w4 ⟨rfl, rfl⟩
    go_wp2_with fail
    refine (cl1Put HO3.out.tx l2).mono ?_
    rintro e w5 ⟨v5, rfl, ho, b5⟩
    have HO5 := Lib.hid (show Ob (TO 9) w5 w.heap.size w5.heap.size v5 (putT (putT (varsP x.pat) x.left) x.right) from ⟨ho.1.mono (by omega) (Nat.le_refl _), Nat.le_refl _⟩)
    have HB5 := Lib.hid (HB3.out.tr b5)
    clear ho b5
    go_wp2
    go_ret
    exact ⟨_, rfl, by rw [HE.out]; exact HO5.out, HB5.out⟩
end Go.Proofs.Ytojgkodffmdnpaa
