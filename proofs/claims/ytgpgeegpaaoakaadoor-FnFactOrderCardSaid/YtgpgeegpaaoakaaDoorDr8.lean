/- A list of facts and a fact that are drawn together. -/
import Derived.Test.YtgpgeegpaaoakaaDoorDr5
namespace Go.Proofs.YtgpgeegpaaoakaaDoor
open Go.RowKit
attribute [local go_sem ↓] Go.wp_at_zero Go.wp_at_succ
set_option linter.unusedVariables false
set_option maxHeartbeats 4000000 in
set_option maxRecDepth 100000 in
theorem cPair2 {g : Nat} {w : World} (hc : Cur 42 w g) :
    Calls Tryd.prog 11 #[.pointer (some ⟨g, 0, none⟩)] w fun e w' => ∃ v' u', e = .returned (.tuple #[v', u']) ∧ ∃ M f, Ob SF w' w.heap.size w'.heap.size v' M ∧ Ob AF w' w.heap.size w'.heap.size u' f ∧ smallFs M ∧ fsz f ≤ 59 ∧ Dr 42 g w w' := by
  have hgl := hc.lt
  have hb0 : Up w (w.alloc (.cells #[.string ⟨#[]⟩, .slice none 0 0] 26)) := Up.al1 _ _
  have KR := Lib.hid (Blk.new w 26 #[.string ⟨#[]⟩, .slice none 0 0])
  have HC := Lib.hid (hc.up hb0)
  have hws : (w.alloc (.cells #[.string ⟨#[]⟩, .slice none 0 0] 26)).heap.size = w.heap.size + 1 := by simp
  have HB0 := Lib.hid hb0
  clear hc hb0
  go_enter Tryd.func11, Tryd.ntmps11
  go_wp2_with fail
  generalize (w.alloc (.cells #[.string ⟨#[]⟩, .slice none 0 0] 26)) = W at *
  refine (cList HC.out).mono ?_
  rintro e w1 ⟨v1, rfl, M, ho, hM, hd⟩
  obtain ⟨a, cap, rfl⟩ := ho.1.form
  have HD1 := Lib.hid (Dr.pre HB0.out hd)
  have KR1 := Lib.hid (KR.out.dr_ hd (by omega))
  have HS1 := Lib.hid ho
  have HM := Lib.hid hM
  have hz1 := hd.2.size
  clear ho hM hd KR HC HB0
  by_cases hm : M.length = 0
  · have hd0 : decide ((0 : Int) < (M.length : Int)) = false := decide_eq_false (by omega)
    have hdN : decide (0 < M.length) = false := decide_eq_false (by omega)
    have hlt0 : ¬ (0 : Int) < (M.length : Int) := by omega
    go_wp2_with fail
    refine (cAnyF HD1.out.1).mono ?_
    rintro e w5 ⟨v5, rfl, f, ho, hf, hd⟩
    obtain ⟨_, rfl, av, rfl, htx⟩ := ho.1
    obtain ⟨oa, oc, rfl⟩ := htx.form
    have HT5 := Lib.hid (show Ob TX w5 w1.heap.size w5.heap.size (.slice oa f.args.length oc) f.args from ⟨htx, Nat.le_refl _⟩)
    have HD5 := Lib.hid (HD1.out.tr hd)
    have KR5 := Lib.hid (KR1.out.dr_ hd (by omega))
    have HS5 := Lib.hid (HS1.out.dr_ hd (.inr (by omega)))
    have hzf := okFW_fsz hf
    have hz5 := hd.2.size
    clear ho hf htx hd
    have r0 : w5.cell? ⟨w.heap.size, 0, none⟩ = some (.string ⟨#[]⟩) := KR5.out.cell 0
    have r1 : w5.cell? ⟨w.heap.size, 1, none⟩ = some (.slice none 0 0) := KR5.out.cell 1
    have q0 := KR5.out.frozen 0
    have q1 := KR5.out.frozen 1
    go_wp2
    clear r0 r1 q0 q1
    have hK9 := (KR5.out).store2 (.string f.rel) (.slice oa f.args.length oc)
    have hD9 := Dr.store2 HD5.out hgl (Nat.le_refl _) (.string f.rel) (.slice oa f.args.length oc)
    have hz9 := size_store2 w5 w.heap.size (.string f.rel) (.slice oa f.args.length oc)
    have hS9 := (HS5.out).store2 (p := w.heap.size) (.inl (by omega)) (.string f.rel) (.slice oa f.args.length oc)
    have hT9 := (HT5.out).store2 (p := w.heap.size) (.inl (by omega)) (.string f.rel) (.slice oa f.args.length oc)
    generalize ((w5.setCell ⟨w.heap.size, 0, none⟩ (.string f.rel)).setCell ⟨w.heap.size, 1, none⟩ (.slice oa f.args.length oc)) = W9 at *
    have e0 := hK9.cell0; have e1 := hK9.cell1
    refine bodyPost_ret (v := .tuple #[.slice a M.length cap, .agg #[.string f.rel, .slice oa f.args.length oc]]) (by simp [results, Tryd.results11, go_sem, e0, e1] <;> omega) rfl ?_
    exact ⟨_, _, rfl, M, f, ⟨SF.mono_ hS9.1 (by omega) (by have := hS9.2; omega), Nat.le_refl _⟩, ⟨⟨[_, _], rfl, _, rfl, hT9.1.mono (by omega) (by have := hT9.2; omega)⟩, Nat.le_refl _⟩, HM.out, hzf, hD9⟩
  · have hp : 0 < M.length := by omega
    have hlt0 : (0 : Int) < (M.length : Int) := by omega
    have hd0 : decide ((0 : Int) < (M.length : Int)) = true := decide_eq_true hlt0
    have hml : M.length ≤ 31 := HM.out.1
    go_wp2_with fail
    refine (cOnce (n := 2) HD1.out.1 (by decide) (by decide)).mono ?_
    rintro e w2 ⟨b, rfl, hd⟩
    have HD2 := Lib.hid (HD1.out.tr hd)
    have KR2 := Lib.hid (KR1.out.dr_ hd (by omega))
    have HS2 := Lib.hid (HS1.out.dr_ hd (.inr (by omega)))
    have hz2 := hd.2.size
    clear hd HD1 KR1 HS1
    cases b
    · skip
      go_wp2_with fail
      refine (cAnyF HD2.out.1).mono ?_
      rintro e w5 ⟨v5, rfl, f, ho, hf, hd⟩
      obtain ⟨_, rfl, av, rfl, htx⟩ := ho.1
      obtain ⟨oa, oc, rfl⟩ := htx.form
      have HT5 := Lib.hid (show Ob TX w5 w2.heap.size w5.heap.size (.slice oa f.args.length oc) f.args from ⟨htx, Nat.le_refl _⟩)
      have HD5 := Lib.hid (HD2.out.tr hd)
      have KR5 := Lib.hid (KR2.out.dr_ hd (by omega))
      have HS5 := Lib.hid (HS2.out.dr_ hd (.inr (by omega)))
      have hzf := okFW_fsz hf
      have hz5 := hd.2.size
      clear ho hf htx hd
      have r0 : w5.cell? ⟨w.heap.size, 0, none⟩ = some (.string ⟨#[]⟩) := KR5.out.cell 0
      have r1 : w5.cell? ⟨w.heap.size, 1, none⟩ = some (.slice none 0 0) := KR5.out.cell 1
      have q0 := KR5.out.frozen 0
      have q1 := KR5.out.frozen 1
      go_wp2
      clear r0 r1 q0 q1
      have hK9 := (KR5.out).store2 (.string f.rel) (.slice oa f.args.length oc)
      have hD9 := Dr.store2 HD5.out hgl (Nat.le_refl _) (.string f.rel) (.slice oa f.args.length oc)
      have hz9 := size_store2 w5 w.heap.size (.string f.rel) (.slice oa f.args.length oc)
      have hS9 := (HS5.out).store2 (p := w.heap.size) (.inl (by omega)) (.string f.rel) (.slice oa f.args.length oc)
      have hT9 := (HT5.out).store2 (p := w.heap.size) (.inl (by omega)) (.string f.rel) (.slice oa f.args.length oc)
      generalize ((w5.setCell ⟨w.heap.size, 0, none⟩ (.string f.rel)).setCell ⟨w.heap.size, 1, none⟩ (.slice oa f.args.length oc)) = W9 at *
      have e0 := hK9.cell0; have e1 := hK9.cell1
      refine bodyPost_ret (v := .tuple #[.slice a M.length cap, .agg #[.string f.rel, .slice oa f.args.length oc]]) (by simp [results, Tryd.results11, go_sem, e0, e1] <;> omega) rfl ?_
      exact ⟨_, _, rfl, M, f, ⟨SF.mono_ hS9.1 (by omega) (by have := hS9.2; omega), Nat.le_refl _⟩, ⟨⟨[_, _], rfl, _, rfl, hT9.1.mono (by omega) (by have := hT9.2; omega)⟩, Nat.le_refl _⟩, HM.out, hzf, hD9⟩
    · go_wp2_with fail
      refine (cBelow (n := M.length) HD2.out.1 hp (by omega)).mono ?_
      rintro e w3 ⟨k, rfl, hk, hd⟩
      have HD3 := Lib.hid (HD2.out.tr hd)
      have KR3 := Lib.hid (KR2.out.dr_ hd (by omega))
      have HS3 := Lib.hid (HS2.out.dr_ hd (.inr (by omega)))
      have hz3 := hd.2.size
      clear hd HD2 KR2 HS2
      obtain ⟨b, off, d, c, rfl, c0, c1, hA⟩ := SF.at HS3.out.1 hk
      have HO : Hid (Ob AF w3 W.heap.size w1.heap.size (.agg #[.string M[k].rel, .slice d M[k].args.length c]) M[k]) := ⟨hA, HS3.out.2⟩
      have hzk := HM.out.2 _ (List.getElem_mem hk)
      have hak : M[k].args.length ≤ 4194304 := by unfold fsz tsz at hzk; omega
      have i1 : (0 : Int) ≤ (k : Int) := by omega
      have i2 : (k : Int) < (M.length : Int) := by omega
      clear hA
      generalize hf : M[k] = f at *
      go_wp2_with fail
      clear c0 c1
      refine (cCopyFS HO.out hak).mono ?_
      rintro e w5 ⟨u5, rfl, ho, b5⟩
      obtain ⟨av, rfl, hto⟩ := ho.1
      obtain ⟨oa, oc, rfl⟩ := hto.tx.form
      have HT5 := Lib.hid (show Ob TX w5 w3.heap.size w5.heap.size (.slice oa f.args.length oc) f.args from ⟨hto.tx, Nat.le_refl _⟩)
      have HD5 := Lib.hid (HD3.out.up b5)
      have KR5 := Lib.hid (KR3.out.up b5)
      have HS5 := Lib.hid (HS3.out.up b5)
      have hz5 := b5.size
      clear ho hto b5 HO
      have r0 : w5.cell? ⟨w.heap.size, 0, none⟩ = some (.string ⟨#[]⟩) := KR5.out.cell 0
      have r1 : w5.cell? ⟨w.heap.size, 1, none⟩ = some (.slice none 0 0) := KR5.out.cell 1
      have q0 := KR5.out.frozen 0
      have q1 := KR5.out.frozen 1
      go_wp2
      clear r0 r1 q0 q1
      have hK9 := (KR5.out).store2 (.string f.rel) (.slice oa f.args.length oc)
      have hD9 := Dr.store2 HD5.out hgl (Nat.le_refl _) (.string f.rel) (.slice oa f.args.length oc)
      have hz9 := size_store2 w5 w.heap.size (.string f.rel) (.slice oa f.args.length oc)
      have hS9 := (HS5.out).store2 (p := w.heap.size) (.inl (by omega)) (.string f.rel) (.slice oa f.args.length oc)
      have hT9 := (HT5.out).store2 (p := w.heap.size) (.inl (by omega)) (.string f.rel) (.slice oa f.args.length oc)
      generalize ((w5.setCell ⟨w.heap.size, 0, none⟩ (.string f.rel)).setCell ⟨w.heap.size, 1, none⟩ (.slice oa f.args.length oc)) = W9 at *
      have e0 := hK9.cell0; have e1 := hK9.cell1
      refine bodyPost_ret (v := .tuple #[.slice (some ⟨b, off, none⟩) M.length cap, .agg #[.string f.rel, .slice oa f.args.length oc]]) (by simp [results, Tryd.results11, go_sem, e0, e1] <;> omega) rfl ?_
      exact ⟨_, _, rfl, M, f, ⟨SF.mono_ hS9.1 (by omega) (by have := hS9.2; omega), Nat.le_refl _⟩, ⟨⟨[_, _], rfl, _, rfl, hT9.1.mono (by omega) (by have := hT9.2; omega)⟩, Nat.le_refl _⟩, HM.out, hzk, hD9⟩
set_option maxHeartbeats 2000000 in
set_option maxRecDepth 100000 in
theorem cDrawFind {v : Value} {L : List Int} {lo hi : Nat} {w : World} (h : Ob BX w lo hi v L) (hok : ∀ n ∈ L, okB n) (hl : L.length ≤ 4096) :
    Calls Tryd.prog 6 #[v] w fun e w' => ∃ v' u', e = .returned (.tuple #[v', u']) ∧ ∃ M f, Ob SF w' w.heap.size w'.heap.size v' M ∧ Ob AF w' w.heap.size w'.heap.size u' f ∧ smallFs M ∧ fsz f ≤ 59 ∧ Up w w' := by
  have KR := Lib.hid (Blk.new w 26 #[.string ⟨#[]⟩, .slice none 0 0])
  have hb0 : Up w (w.alloc (.cells #[.string ⟨#[]⟩, .slice none 0 0] 26)) := Up.al1 _ _
  have HH := Lib.hid (h.up hb0)
  have HB := Lib.hid hb0
  have hws : (w.alloc (.cells #[.string ⟨#[]⟩, .slice none 0 0] 26)).heap.size = w.heap.size + 1 := by simp
  clear h hb0
  go_enter Tryd.func6, Tryd.ntmps6
  go_wp2_with fail
  generalize (w.alloc (.cells #[.string ⟨#[]⟩, .slice none 0 0] 26)) = W at *
  refine (cNew HH.out hok hl).mono ?_
  rintro e w1 ⟨g, rfl, hg, hc, b1⟩
  have KR1 := Lib.hid (KR.out.up b1)
  have hz1 := b1.size
  have hgl := hc.lt
  go_wp2_with fail
  refine (cPair2 hc).mono ?_
  rintro e w2 ⟨v2, u2, rfl, M, f, ho, hof, hM, hzf, hd⟩
  obtain ⟨_, rfl, av, rfl, htx⟩ := hof.1
  obtain ⟨oa, oc, rfl⟩ := htx.form
  obtain ⟨a, cap, rfl⟩ := ho.1.form
  have HU := Lib.hid (HB.out.tr (hd.below b1 hg))
  have KR2 := Lib.hid (KR1.out.dr_ hd (by omega))
  have HT2 := Lib.hid (show Ob TX w2 w1.heap.size w2.heap.size (.slice oa f.args.length oc) f.args from ⟨htx, Nat.le_refl _⟩)
  have HS2 := Lib.hid ho
  have HM := Lib.hid hM
  have hz2 := hd.2.size
  have r0 : w2.cell? ⟨w.heap.size, 0, none⟩ = some (.string ⟨#[]⟩) := KR2.out.cell 0
  have r1 : w2.cell? ⟨w.heap.size, 1, none⟩ = some (.slice none 0 0) := KR2.out.cell 1
  have q0 := KR2.out.frozen 0
  have q1 := KR2.out.frozen 1
  clear ho hof htx hM hd b1 hc KR KR1 HH HB
  go_wp2
  clear r0 r1 q0 q1
  have hK9 := KR2.out.store2 (.string f.rel) (.slice oa f.args.length oc)
  have hU9 := Up.store2 HU.out (Nat.le_refl _) (.string f.rel) (.slice oa f.args.length oc)
  have hz9 := size_store2 w2 w.heap.size (.string f.rel) (.slice oa f.args.length oc)
  have hS9 := HS2.out.store2 (p := w.heap.size) (.inl (by omega)) (.string f.rel) (.slice oa f.args.length oc)
  have hT9 := HT2.out.store2 (p := w.heap.size) (.inl (by omega)) (.string f.rel) (.slice oa f.args.length oc)
  generalize ((w2.setCell ⟨w.heap.size, 0, none⟩ (.string f.rel)).setCell ⟨w.heap.size, 1, none⟩ (.slice oa f.args.length oc)) = W9 at *
  have e0 := hK9.cell0; have e1 := hK9.cell1
  refine bodyPost_ret (v := .tuple #[.slice a M.length cap, .agg #[.string f.rel, .slice oa f.args.length oc]]) (by simp [results, Tryd.results6, go_sem, e0, e1]) rfl ?_
  exact ⟨_, _, rfl, M, f, ⟨SF.mono_ hS9.1 (by omega) (by omega), Nat.le_refl _⟩, ⟨⟨[_, _], rfl, _, rfl, hT9.1.mono (by omega) (by omega)⟩, Nat.le_refl _⟩, HM.out, hzf, hU9⟩
end Go.Proofs.YtgpgeegpaaoakaaDoor
