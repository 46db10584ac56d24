/- The walk of the law FnPatternText: for every input the call returns true and nothing that was there has turned. -/
import Derived.Deep.DeepCutAuto
import Derived.Test.YtbflhchmaoigdaaDoorDr2
import Derived.Test.YtbflhchmaoigdaaDoorDr4
import Derived.Test.YtbflhchmaoigdaaDoorParF
import Derived.Test.YtbflhchmaoigdaaDoorPlT
import Derived.Test.YtbflhchmaoigdaaDoorForm
namespace Go.Proofs.YtbflhchmaoigdaaDoor
open Go.RowKit
attribute [local go_sem ↓] Go.wp_at_zero Go.wp_at_succ
set_option linter.unusedVariables false
set_option maxHeartbeats 2000000 in
theorem cDrawFormP {v : Value} {L : List Int} {lo hi : Nat} {w : World} (h : Ob BX w lo hi v L) (hok : ∀ n ∈ L, okB n) (hl : L.length ≤ 4096) :
    Calls Tryd.prog 27 #[v] w fun e w' => ∃ v', e = .returned v' ∧ ∃ f, Ob AF w' w.heap.size w'.heap.size v' f ∧ okFW f ∧ Up w w' := by
  have KR := Lib.hid (Blk.new w 35 #[.string ⟨#[]⟩, .slice none 0 0])
  have hb0 : Up w (w.alloc (.cells #[.string ⟨#[]⟩, .slice none 0 0] 35)) := Up.al1 _ _
  have HH := Lib.hid (h.up hb0)
  have HB := Lib.hid hb0
  have hws : (w.alloc (.cells #[.string ⟨#[]⟩, .slice none 0 0] 35)).heap.size = w.heap.size + 1 := by simp
  clear h hb0
  go_enter Tryd.func27, Tryd.ntmps27
  go_wp2_with fail
  generalize (w.alloc (.cells #[.string ⟨#[]⟩, .slice none 0 0] 35)) = W at *
  refine (cNew HH.out hok hl).mono ?_
  rintro e w1 ⟨g, rfl, hg, hc, b1⟩
  have KR1 := Lib.hid (KR.out.up b1)
  have hz1 := b1.size
  go_wp2_with fail
  refine (cAnyP hc).mono ?_
  rintro e w2 ⟨v', rfl, f, ho, hf, hd⟩
  have HU := Lib.hid (HB.out.tr (hd.below b1 hg))
  have HF := Lib.hid hf
  have KR2 := Lib.hid (KR1.out.dr_ hd (by omega))
  obtain ⟨_, rfl, av, rfl, htx⟩ := ho.1
  obtain ⟨oa, oc, rfl⟩ := htx.form
  have HX := Lib.hid htx
  have hz2 := hd.2.size
  have q0 := KR2.out.frozen 0
  have q1 := KR2.out.frozen 1
  have r0 : w2.cell? ⟨w.heap.size, 0, none⟩ = some (.string ⟨#[]⟩) := KR2.out.cell 0
  have r1 : w2.cell? ⟨w.heap.size, 1, none⟩ = some (.slice none 0 0) := KR2.out.cell 1
  clear hd b1 hf ho htx hc KR KR1 HH HB
  go_wp2
  clear q0 q1 r0 r1
  have hK9 : Blk ((w2.setCell ⟨w.heap.size, 0, none⟩ (.string f.rel)).setCell ⟨w.heap.size, 1, none⟩ (.slice oa f.args.length oc)) w.heap.size 35 #[.string f.rel, (.slice oa f.args.length oc)] := by have := (KR2.out.set_ 0 (.string f.rel)).set_ 1 (.slice oa f.args.length oc); simpa using this
  have hz9 : ((w2.setCell ⟨w.heap.size, 0, none⟩ (.string f.rel)).setCell ⟨w.heap.size, 1, none⟩ (.slice oa f.args.length oc)).heap.size = w2.heap.size := by simp [World.setCell]
  have hU9 : Up w ((w2.setCell ⟨w.heap.size, 0, none⟩ (.string f.rel)).setCell ⟨w.heap.size, 1, none⟩ (.slice oa f.args.length oc)) := (HU.out.setCell (p := ⟨w.heap.size, 0, none⟩) (Nat.le_refl _) _).setCell (p := ⟨w.heap.size, 1, none⟩) (Nat.le_refl _) _
  have hT9 : TX ((w2.setCell ⟨w.heap.size, 0, none⟩ (.string f.rel)).setCell ⟨w.heap.size, 1, none⟩ (.slice oa f.args.length oc)) w1.heap.size w2.heap.size (.slice oa f.args.length oc) f.args := HX.out.keep fun b h1 h2 => ((((Stays.refl w2 w1.heap.size w2.heap.size).setCell (p := ⟨w.heap.size, 0, none⟩) (.inl (by show w.heap.size < w1.heap.size; omega)) (.string f.rel)).setCell (p := ⟨w.heap.size, 1, none⟩) (.inl (by show w.heap.size < w1.heap.size; omega)) (.slice oa f.args.length oc)) b h1 h2)
  generalize ((w2.setCell ⟨w.heap.size, 0, none⟩ (.string f.rel)).setCell ⟨w.heap.size, 1, none⟩ (.slice oa f.args.length oc)) = W9 at *
  have e0 := hK9.cell0; have e1 := hK9.cell1
  refine bodyPost_ret (v := .agg #[.string f.rel, (.slice oa f.args.length oc)]) (by simp [results, Tryd.results27, go_sem, e0, e1]) rfl ?_
  exact ⟨_, rfl, f, ⟨⟨[_, _], rfl, _, rfl, hT9.mono (by omega) (by omega)⟩, Nat.le_refl _⟩, HF.out, hU9⟩
theorem parseP_known {s : ByteArray} {o : Option FactV} {b : Bool} {x : FactV} {w : World} (hp : parseB isPatB s = o) (hb : o.isSome = b) (hx : oF o = x) (hM : MxL w) (hs : s.size ≤ 1048576) :
    Calls Tryd.prog 29 #[.string s] w fun e w' => ∃ v', e = .returned (.tuple #[v', .bool b]) ∧ Ob (FO 9) w' w.heap.size w'.heap.size v' x ∧ Up w w' := by
  subst hp hb hx
  exact cParseP hM hs
set_option maxHeartbeats 20000000 in
set_option maxRecDepth 100000 in
theorem walk_FnPatternText (w : World) (v0 : Value) (x0 : List Int) (m0 : BX w 0 w.heap.size v0 x0) (o0 : ∀ n ∈ x0, okB n) (H_MxL : MxL w) :
    Calls Tryd.prog 6 #[v0] w fun e w' => e = .returned (.bool true) ∧ Below w.heap.size w w' := by
  have HV : Hid (Ob BX w 0 w.heap.size v0 x0) := ⟨m0, Nat.le_refl _⟩
  have HT := Lib.hid H_MxL
  have HK := Lib.hid o0
  clear m0 H_MxL o0
  go_enter Tryd.func6, Tryd.ntmps6
  go_wp2_with fail
  refine (cBig HV.out).mono ?_
  rintro e w1 ⟨rfl, rfl⟩
  by_cases hbig : (4096 : Int) < x0.length
  · have hd : decide ((4096 : Int) < x0.length) = true := decide_eq_true hbig
    rw [hd]
    go_wp2
    go_ret
    exact ⟨rfl, Below.refl _ _⟩
  have hd : decide ((4096 : Int) < x0.length) = false := decide_eq_false hbig
  have hl : x0.length ≤ 4096 := by omega
  rw [hd]
  clear hd hbig
  go_wp2_with fail
  refine (cDrawFormP HV.out HK.out hl).mono ?_
  rintro e w1 ⟨v1, rfl, f, ho, hf, b1⟩
  have hz := okFW_fsz hf
  obtain ⟨_, rfl, av, rfl, htx⟩ := ho.1
  obtain ⟨oa, oc, rfl⟩ := htx.form
  have HX := Lib.hid ((show Ob AF w1 w.heap.size w1.heap.size (.agg #[.string f.rel, (.slice oa f.args.length oc)]) f from ho).up (Up.al1 w1 (.cells #[.string f.rel, (.slice oa f.args.length oc)] 35)))
  have HU1 := Lib.hid (b1.tr (Up.al1 w1 (.cells #[.string f.rel, (.slice oa f.args.length oc)] 35)))
  have HK1 := Lib.hid (Blk.new w1 35 #[.string f.rel, (.slice oa f.args.length oc)])
  have HT1 := Lib.hid (HT.out.up HU1.out)
  have hz0 : fsz f ≤ 1048576 := by omega
  clear ho hf b1 htx hz HT
  have hsz : (formP f).size ≤ 1048576 := by
    unfold formP
    cases h : isPatB f with
    | false => simp [ByteArray.size]
    | true => simp only [if_true]; have := fmtF_pat h; omega
  have hp := parse_formP f
  have h0 := formP_size0 f
  go_upto_region 4 with fail
  generalize hp1 : w1.heap.size = p at *
  generalize (w1.alloc (.cells #[.string f.rel, (.slice oa f.args.length oc)] 35)) = W1 at *
  have c0 : W1.cell? ⟨p, 0, none⟩ = some (.string f.rel) := HK1.out.cell 0
  have c1 : W1.cell? ⟨p, 1, none⟩ = some (.slice oa f.args.length oc) := HK1.out.cell 1
  go_wp2_with fail
  refine (cFormP HX.out hz0).mono ?_
  rintro e w2 ⟨rfl, b2⟩
  have HX2 := Lib.hid (HX.out.up b2)
  have HU2 := Lib.hid (HU1.out.tr b2)
  have HK2 := Lib.hid (HK1.out.up b2)
  have HT2 := Lib.hid (HT1.out.up b2)
  clear b2 HX HU1 HK1 HT1 c0 c1
  generalize formP f = s at *
  cases hB : isPatB f
  all_goals
    rw [hB] at hp h0
  · rw [if_neg (by simp)] at hp
    have hs : s = ⟨#[]⟩ := by
      have : s.data.size = 0 := h0.2 rfl
      cases s; simp_all [ByteArray.size]
    subst hs
    go_wp2_with fail
    refine (parseP_known hp rfl rfl HT2.out hsz).mono ?_
    rintro e w3 ⟨v3, rfl, ho, b3⟩
    obtain ⟨av3, rfl, hto⟩ := ho.1
    obtain ⟨oa3, oc3, rfl⟩ := hto.tx.form
    have HU3 := Lib.hid ((HU2.out.tr b3).tr (Up.al1 w3 (.cells #[.string (oF none).rel, (.slice oa3 (oF none).args.length oc3)] 35)))
    have HX3 := Lib.hid ((HX2.out.up b3).up (Up.al1 w3 (.cells #[.string (oF none).rel, (.slice oa3 (oF none).args.length oc3)] 35)))
    have HK3 := Lib.hid ((HK2.out.up b3).up (Up.al1 w3 (.cells #[.string (oF none).rel, (.slice oa3 (oF none).args.length oc3)] 35)))
    clear b3 ho hto HX2 HU2 HK2
    go_upto_region 6 with fail
    generalize (w3.alloc (.cells #[.string (oF none).rel, (.slice oa3 (oF none).args.length oc3)] 35)) = W3 at *
    have c0 : W3.cell? ⟨p, 0, none⟩ = some (.string f.rel) := HK3.out.cell 0
    have c1 : W3.cell? ⟨p, 1, none⟩ = some (.slice oa f.args.length oc) := HK3.out.cell 1
    go_wp2_with fail
    refine (cIsPatternS HX3.out hz0).mono ?_
    rintro e w4 ⟨rfl, b4⟩
    have HU4 := Lib.hid (HU3.out.tr b4)
    rw [hB]
    go_wp2
    go_ret
    exact ⟨rfl, HU4.out⟩
  · rw [if_pos rfl] at hp
    have h1 : s.size ≠ 0 := fun h => by have := h0.1 h; cases this
    clear h0
    go_wp2_with fail
    refine (parseP_known hp rfl rfl HT2.out hsz).mono ?_
    rintro e w3 ⟨v3, rfl, ho, b3⟩
    obtain ⟨av3, rfl, hto⟩ := ho.1
    obtain ⟨oa3, oc3, rfl⟩ := hto.tx.form
    have HY3 := Lib.hid ((show Ob AF w3 w2.heap.size w3.heap.size (.agg #[.string (oF (some f)).rel, (.slice oa3 (oF (some f)).args.length oc3)]) f from ho.af).up (Up.al1 w3 (.cells #[.string (oF (some f)).rel, (.slice oa3 (oF (some f)).args.length oc3)] 35)))
    have HU3 := Lib.hid ((HU2.out.tr b3).tr (Up.al1 w3 (.cells #[.string (oF (some f)).rel, (.slice oa3 (oF (some f)).args.length oc3)] 35)))
    have HX3 := Lib.hid ((HX2.out.up b3).up (Up.al1 w3 (.cells #[.string (oF (some f)).rel, (.slice oa3 (oF (some f)).args.length oc3)] 35)))
    have HK3 := Lib.hid ((HK2.out.up b3).up (Up.al1 w3 (.cells #[.string (oF (some f)).rel, (.slice oa3 (oF (some f)).args.length oc3)] 35)))
    have HQ3 := Lib.hid (Blk.new w3 35 #[.string (oF (some f)).rel, (.slice oa3 (oF (some f)).args.length oc3)])
    clear b3 ho hto HX2 HU2 HK2
    go_upto_region 6 with fail
    generalize (w3.alloc (.cells #[.string (oF (some f)).rel, (.slice oa3 (oF (some f)).args.length oc3)] 35)) = W3 at *
    generalize hq : w3.heap.size = q at *
    have c0 : W3.cell? ⟨p, 0, none⟩ = some (.string f.rel) := HK3.out.cell 0
    have c1 : W3.cell? ⟨p, 1, none⟩ = some (.slice oa f.args.length oc) := HK3.out.cell 1
    have hne : (s.toList == []) = false := by
      cases h : (s.toList == []) with
      | false => rfl
      | true =>
        have := str_eq_t (a := s) (b := ⟨#[]⟩) (by simpa using h)
        exact absurd (by rw [this]; rfl) h1
    go_wp2_with fail
    refine (cIsPatternS HX3.out hz0).mono ?_
    rintro e w4 ⟨rfl, b4⟩
    have HU4 := Lib.hid (HU3.out.tr b4)
    have HX4 := Lib.hid (HX3.out.up b4)
    have HY4 := Lib.hid (HY3.out.up b4)
    have k0 : w4.cell? ⟨p, 0, none⟩ = some (.string f.rel) := (HK3.out.up b4).cell 0
    have k1 : w4.cell? ⟨p, 1, none⟩ = some (.slice oa f.args.length oc) := (HK3.out.up b4).cell 1
    have l0 : w4.cell? ⟨q, 0, none⟩ = some (.string (oF (some f)).rel) := (HQ3.out.up b4).cell 0
    have l1 : w4.cell? ⟨q, 1, none⟩ = some (.slice oa3 (oF (some f)).args.length oc3) := (HQ3.out.up b4).cell 1
    clear c0 c1 b4 HU3 HX3 HY3
    rw [hB]
    go_wp2_with fail
    refine (cSamePattern HY4.out HX4.out).mono ?_
    rintro e w5 ⟨rfl, b5⟩
    have HU5 := Lib.hid (HU4.out.tr b5)
    rw [sameFB_iff.2 rfl]
    go_wp2
    go_ret
    exact ⟨rfl, HU5.out⟩
end Go.Proofs.YtbflhchmaoigdaaDoor
