/- Two facts that are drawn together. -/
import Derived.Test.YtgpgeegpaaoakaaDoorDr5
namespace Go.Proofs.YtgpgeegpaaoakaaDoor
open Go.RowKit
attribute [local go_sem ↓] Go.wp_at_zero Go.wp_at_succ
set_option linter.unusedVariables false
set_option maxHeartbeats 4000000 in
set_option maxRecDepth 100000 in
theorem cDrawCF {v : Value} {L : List Int} {lo hi : Nat} {w : World} (h : Ob BX w lo hi v L) (hok : ∀ n ∈ L, okB n) (hl : L.length ≤ 4096) :
    Calls Tryd.prog 5 #[v] w fun e w' => ∃ v' u', e = .returned (.tuple #[v', u']) ∧ ∃ a b, Ob AF w' w.heap.size w'.heap.size v' a ∧ Ob AF w' w.heap.size w'.heap.size u' b ∧ fsz a ≤ 59 ∧ fsz b ≤ 59 ∧ Up w w' := by
  have hb0 : Up w ((w.alloc (.cells #[.string ⟨#[]⟩, .slice none 0 0] 26)).alloc (.cells #[.string ⟨#[]⟩, .slice none 0 0] 26)) := (Up.al1 _ _).al _
  have KA := Lib.hid (show Blk ((w.alloc (.cells #[.string ⟨#[]⟩, .slice none 0 0] 26)).alloc (.cells #[.string ⟨#[]⟩, .slice none 0 0] 26)) w.heap.size 26 #[.string ⟨#[]⟩, .slice none 0 0] from (Blk.new w 26 #[.string ⟨#[]⟩, .slice none 0 0]).alloc _)
  have KB := Lib.hid (show Blk ((w.alloc (.cells #[.string ⟨#[]⟩, .slice none 0 0] 26)).alloc (.cells #[.string ⟨#[]⟩, .slice none 0 0] 26)) (w.heap.size + 1) 26 #[.string ⟨#[]⟩, .slice none 0 0] from by have := Blk.new (w.alloc (.cells #[.string ⟨#[]⟩, .slice none 0 0] 26)) 26 #[.string ⟨#[]⟩, .slice none 0 0]; simpa using this)
  have hws : ((w.alloc (.cells #[.string ⟨#[]⟩, .slice none 0 0] 26)).alloc (.cells #[.string ⟨#[]⟩, .slice none 0 0] 26)).heap.size = w.heap.size + 2 := by simp
  have HH := Lib.hid (h.up hb0)
  have HB := Lib.hid hb0
  clear h hb0
  go_enter Tryd.func5, Tryd.ntmps5
  go_wp2_with fail
  generalize ((w.alloc (.cells #[.string ⟨#[]⟩, .slice none 0 0] 26)).alloc (.cells #[.string ⟨#[]⟩, .slice none 0 0] 26)) = W at *
  refine (cNew HH.out hok hl).mono ?_
  rintro e w1 ⟨g, rfl, hg, hc, b1⟩
  have KA1 := Lib.hid (KA.out.up b1)
  have KB1 := Lib.hid (KB.out.up b1)
  have hz1 := b1.size
  have HB1 := Lib.hid b1
  have hgl := hc.lt
  clear b1 KA KB
  go_wp2_with fail
  refine (cAnyF hc).mono ?_
  rintro e w2 ⟨v2, rfl, a, ho, hf, hd⟩
  obtain ⟨_, rfl, av, rfl, htx⟩ := ho.1
  obtain ⟨aa, ac, rfl⟩ := htx.form
  have hza := okFW_fsz hf
  have HT2 := Lib.hid (show Ob TX w2 w1.heap.size w2.heap.size (.slice aa a.args.length ac) a.args from ⟨htx, Nat.le_refl _⟩)
  have HD2 := Lib.hid hd
  have KA2 := Lib.hid (KA1.out.dr_ hd (by omega))
  have KB2 := Lib.hid (KB1.out.dr_ hd (by omega))
  have hz2 := hd.2.size
  clear ho hf htx hd hc KA1 KB1
  go_wp2_with fail
  refine (cAnyF HD2.out.1).mono ?_
  rintro e w3 ⟨v3, rfl, b, ho, hf, hd⟩
  obtain ⟨_, rfl, av, rfl, htx⟩ := ho.1
  obtain ⟨ba, bc, rfl⟩ := htx.form
  have hzb := okFW_fsz hf
  have HX3 := Lib.hid (show Ob TX w3 w2.heap.size w3.heap.size (.slice ba b.args.length bc) b.args from ⟨htx, Nat.le_refl _⟩)
  have HT3 := Lib.hid (HT2.out.dr_ hd (.inr (by omega)))
  have HU := Lib.hid (HB.out.tr ((HD2.out.tr hd).below HB1.out hg))
  have KA3 := Lib.hid (KA2.out.dr_ hd (by omega))
  have KB3 := Lib.hid (KB2.out.dr_ hd (by omega))
  have hz3 := hd.2.size
  clear ho hf htx hd HD2 KA2 KB2 HT2
  have r0 : w3.cell? ⟨w.heap.size, 0, none⟩ = some (.string ⟨#[]⟩) := KA3.out.cell 0
  have r1 : w3.cell? ⟨w.heap.size, 1, none⟩ = some (.slice none 0 0) := KA3.out.cell 1
  have q0 := KA3.out.frozen 0
  have q1 := KA3.out.frozen 1
  have s0 : w3.cell? ⟨w.heap.size + 1, 0, none⟩ = some (.string ⟨#[]⟩) := KB3.out.cell 0
  have s1 : w3.cell? ⟨w.heap.size + 1, 1, none⟩ = some (.slice none 0 0) := KB3.out.cell 1
  have t0 := KB3.out.frozen 0
  have t1 := KB3.out.frozen 1
  go_wp2
  clear r0 r1 q0 q1 s0 s1 t0 t1
  have hA5 := KA3.out.store2 (.string a.rel) (.slice aa a.args.length ac)
  have hB5 := (KB3.out.far (p := ⟨w.heap.size, 0, none⟩) (by show w.heap.size + 1 ≠ w.heap.size; omega) (.string a.rel)).far (p := ⟨w.heap.size, 1, none⟩) (by show w.heap.size + 1 ≠ w.heap.size; omega) (.slice aa a.args.length ac)
  have hU5 := Up.store2 HU.out (Nat.le_refl _) (.string a.rel) (.slice aa a.args.length ac)
  have hz5 := size_store2 w3 w.heap.size (.string a.rel) (.slice aa a.args.length ac)
  have hT5 := HT3.out.store2 (p := w.heap.size) (.inl (by omega)) (.string a.rel) (.slice aa a.args.length ac)
  have hX5 := HX3.out.store2 (p := w.heap.size) (.inl (by omega)) (.string a.rel) (.slice aa a.args.length ac)
  generalize ((w3.setCell ⟨w.heap.size, 0, none⟩ (.string a.rel)).setCell ⟨w.heap.size, 1, none⟩ (.slice aa a.args.length ac)) = W5 at *
  have hA9 := (hA5.far (p := ⟨w.heap.size + 1, 0, none⟩) (by show w.heap.size ≠ w.heap.size + 1; omega) (.string b.rel)).far (p := ⟨w.heap.size + 1, 1, none⟩) (by show w.heap.size ≠ w.heap.size + 1; omega) (.slice ba b.args.length bc)
  have hB9 := hB5.store2 (.string b.rel) (.slice ba b.args.length bc)
  have hU9 := Up.store2 hU5 (Nat.le_succ _) (.string b.rel) (.slice ba b.args.length bc)
  have hz9 := size_store2 W5 (w.heap.size + 1) (.string b.rel) (.slice ba b.args.length bc)
  have hT9 := hT5.store2 (p := w.heap.size + 1) (.inl (by omega)) (.string b.rel) (.slice ba b.args.length bc)
  have hX9 := hX5.store2 (p := w.heap.size + 1) (.inl (by omega)) (.string b.rel) (.slice ba b.args.length bc)
  generalize ((W5.setCell ⟨w.heap.size + 1, 0, none⟩ (.string b.rel)).setCell ⟨w.heap.size + 1, 1, none⟩ (.slice ba b.args.length bc)) = W9 at *
  have e0 := hA9.cell0; have e1 := hA9.cell1
  have f0 := hB9.cell0; have f1 := hB9.cell1
  refine bodyPost_ret (v := .tuple #[.agg #[.string a.rel, .slice aa a.args.length ac], .agg #[.string b.rel, .slice ba b.args.length bc]]) (by simp [results, Tryd.results5, go_sem, e0, e1, f0, f1]) rfl ?_
  exact ⟨_, _, rfl, a, b, ⟨⟨[_, _], rfl, _, rfl, hT9.1.mono (by omega) (by omega)⟩, Nat.le_refl _⟩, ⟨⟨[_, _], rfl, _, rfl, hX9.1.mono (by omega) (by omega)⟩, Nat.le_refl _⟩, hza, hzb, hU9⟩
end Go.Proofs.YtgpgeegpaaoakaaDoor
