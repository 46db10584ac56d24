/- A pattern and a binding that are drawn together. -/
import Derived.Test.YtpkphijfncbbiaaDr6
namespace Go.Proofs.Ytpkphijfncbbiaa
open Go.RowKit
attribute [local go_sem ↓] Go.wp_at_zero Go.wp_at_succ
set_option linter.unusedVariables false
section
variable {T : TypeId} {w2 a : World} {p g lo hi : Nat} {t : TypeId} {u v x y : Value}
/- a struct of two cells stored into a block of the call's own -/
theorem Blk.two (h : Blk w2 p t #[u, v]) (x y : Value) : Blk ((w2.setCell ⟨p, 0, none⟩ x).setCell ⟨p, 1, none⟩ y) p t #[x, y] := by
  have := (h.set_ 0 x).set_ 1 y
  simpa using this
theorem size_two (w2 : World) (p : Nat) (x y : Value) : ((w2.setCell ⟨p, 0, none⟩ x).setCell ⟨p, 1, none⟩ y).heap.size = w2.heap.size := by simp [World.setCell]
theorem Stays.two (w2 : World) (hp : p < lo ∨ hi ≤ p) (x y : Value) : Stays w2 ((w2.setCell ⟨p, 0, none⟩ x).setCell ⟨p, 1, none⟩ y) lo hi :=
  ((Stays.refl w2 lo hi).setCell (p := ⟨p, 0, none⟩) hp x).setCell (p := ⟨p, 1, none⟩) hp y
theorem Up.two (h : Up a w2) (hp : a.heap.size ≤ p) (x y : Value) : Up a ((w2.setCell ⟨p, 0, none⟩ x).setCell ⟨p, 1, none⟩ y) :=
  (h.setCell (p := ⟨p, 0, none⟩) hp x).setCell (p := ⟨p, 1, none⟩) hp y
theorem Ob.two {α : Type} {R : World → Nat → Nat → Value → α → Prop} [Kp R] {z : α} (h : Ob R w2 lo hi v z) (hp : p < lo ∨ hi ≤ p) (x y : Value) : Ob R ((w2.setCell ⟨p, 0, none⟩ x).setCell ⟨p, 1, none⟩ y) lo hi v z :=
  ⟨Kp.keep h.1 (Stays.two w2 hp x y), by rw [size_two]; exact h.2⟩
end
theorem SP.mono9 {w : World} {lo hi lo' hi' : Nat} {v : Value} {L : List (ByteArray × ByteArray)} (h : SP w lo hi v L) (h1 : lo' ≤ lo) (h2 : hi ≤ hi') : SP w lo' hi' v L :=
  SL.mono h h1 h2 fun cs x hx => hx
set_option maxHeartbeats 4000000 in
set_option maxRecDepth 100000 in
theorem cDrawInst {v : Value} {L : List Int} {lo hi : Nat} {w : World} (h : Ob BX w lo hi v L) (hok : ∀ n ∈ L, okB n) (hl : L.length ≤ 4096) :
    Calls Try.prog 13 #[v] w fun e w' => ∃ v' vb, e = .returned (.tuple #[v', vb]) ∧ ∃ p B, Ob AF w' w.heap.size w'.heap.size v' p ∧ Ob SP w' w.heap.size w'.heap.size vb B ∧ okFW p ∧ smallP 7 B ∧ Up w w' := by
  have KR := Lib.hid (Blk.new w 27 #[.string ⟨#[]⟩, .slice none 0 0])
  have hb0 : Up w (w.alloc (.cells #[.string ⟨#[]⟩, .slice none 0 0] 27)) := Up.al1 _ _
  have HH := Lib.hid (h.up hb0)
  have HB := Lib.hid hb0
  have hws : (w.alloc (.cells #[.string ⟨#[]⟩, .slice none 0 0] 27)).heap.size = w.heap.size + 1 := by simp
  clear h hb0
  go_enter Try.func13, Try.ntmps13
  go_wp2_with fail
  generalize (w.alloc (.cells #[.string ⟨#[]⟩, .slice none 0 0] 27)) = W at *
  refine (cNew HH.out hok hl).mono ?_
  rintro e w1 ⟨g, rfl, hg, hc, b1⟩
  have KR1 := Lib.hid (KR.out.up b1)
  have hz1 := b1.size
  have HB1 := Lib.hid b1
  have hgl := hc.lt
  clear b1 KR
  go_wp2_with fail
  refine (cAnyP hc).mono ?_
  rintro e w2 ⟨v2, rfl, p, ho, hf, hd⟩
  obtain ⟨_, rfl, av, rfl, htx⟩ := ho.1
  obtain ⟨oa, oc, rfl⟩ := htx.form
  have HF := Lib.hid hf
  have HT2 := Lib.hid (show Ob TX w2 w1.heap.size w2.heap.size (.slice oa p.args.length oc) p.args from ⟨htx, Nat.le_refl _⟩)
  have HD2 := Lib.hid hd
  have KR2 := Lib.hid (KR1.out.dr_ hd (by omega))
  have hz2 := hd.2.size
  clear ho hf htx hd hc KR1
  go_wp2_with fail
  refine (cAnyB HD2.out.1).mono ?_
  rintro e w3 ⟨vb, rfl, B, hob, hbs, hd⟩
  have HT3 := Lib.hid (HT2.out.dr_ hd (.inr (by omega)))
  have HBs := Lib.hid hbs
  have HB3 := Lib.hid hob.sp
  have KR3 := Lib.hid (KR2.out.dr_ hd (by omega))
  have HU := Lib.hid (HB.out.tr ((HD2.out.tr hd).below HB1.out hg))
  have hz3 := hd.2.size
  clear hob hbs hd HD2 KR2 HT2
  have r0 : w3.cell? ⟨w.heap.size, 0, none⟩ = some (.string ⟨#[]⟩) := KR3.out.cell 0
  have r1 : w3.cell? ⟨w.heap.size, 1, none⟩ = some (.slice none 0 0) := KR3.out.cell 1
  have q0 := KR3.out.frozen 0
  have q1 := KR3.out.frozen 1
  go_wp2
  clear r0 r1 q0 q1
  have hK9 := KR3.out.two (.string p.rel) (.slice oa p.args.length oc)
  have hU9 := Up.two HU.out (Nat.le_refl _) (.string p.rel) (.slice oa p.args.length oc)
  have hz9 := size_two w3 w.heap.size (.string p.rel) (.slice oa p.args.length oc)
  have hT9 := (HT3.out.two (p := w.heap.size) (.inl (by omega)) (.string p.rel) (.slice oa p.args.length oc)).1
  have hB9 := (HB3.out.two (p := w.heap.size) (.inl (by omega)) (.string p.rel) (.slice oa p.args.length oc)).1
  generalize ((w3.setCell ⟨w.heap.size, 0, none⟩ (.string p.rel)).setCell ⟨w.heap.size, 1, none⟩ (.slice oa p.args.length oc)) = W9 at *
  have e0 := hK9.cell0; have e1 := hK9.cell1
  refine bodyPost_ret (v := .tuple #[.agg #[.string p.rel, .slice oa p.args.length oc], vb]) (by simp [results, Try.results13, go_sem, e0, e1]) rfl ?_
  exact ⟨_, _, rfl, p, B, ⟨⟨[_, _], rfl, _, rfl, hT9.mono (by omega) (by omega)⟩, Nat.le_refl _⟩, ⟨SP.mono9 hB9 (by omega) (by omega), Nat.le_refl _⟩, HF.out, HBs.out, hU9⟩
end Go.Proofs.Ytpkphijfncbbiaa
