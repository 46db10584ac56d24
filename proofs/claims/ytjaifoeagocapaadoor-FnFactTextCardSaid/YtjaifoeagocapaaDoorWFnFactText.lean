/- The walk of the law FnFactText: for every input the call returns true and nothing that was there has turned. -/
import Derived.Deep.DeepCutAuto
import Derived.Test.YtjaifoeagocapaaDoorDr2
import Derived.Test.YtjaifoeagocapaaDoorDr5
import Derived.Test.YtjaifoeagocapaaDoorParFs
import Derived.Test.YtjaifoeagocapaaDoorPlT
import Derived.Test.YtjaifoeagocapaaDoorFormFs
namespace Go.Proofs.YtjaifoeagocapaaDoor
open Go.RowKit
attribute [local go_sem ↓] Go.wp_at_zero Go.wp_at_succ
set_option linter.unusedVariables false
set_option maxHeartbeats 2000000 in
theorem cDrawFormF {v : Value} {L : List Int} {lo hi : Nat} {w : World} (h : Ob BX w lo hi v L) (hok : ∀ n ∈ L, okB n) (hl : L.length ≤ 4096) :
    Calls Tryd.prog 11 #[v] w fun e w' => ∃ v', e = .returned v' ∧ ∃ f, Ob AF w' w.heap.size w'.heap.size v' f ∧ okFW f ∧ Up w w' := by
  have KR := Lib.hid (Blk.new w 35 #[.string ⟨#[]⟩, .slice none 0 0])
  have hb0 : Up w (w.alloc (.cells #[.string ⟨#[]⟩, .slice none 0 0] 35)) := Up.al1 _ _
  have HH := Lib.hid (h.up hb0)
  have HB := Lib.hid hb0
  have hws : (w.alloc (.cells #[.string ⟨#[]⟩, .slice none 0 0] 35)).heap.size = w.heap.size + 1 := by simp
  clear h hb0
  go_enter Tryd.func11, Tryd.ntmps11
  go_wp2_with fail
  generalize (w.alloc (.cells #[.string ⟨#[]⟩, .slice none 0 0] 35)) = W at *
  refine (cNew HH.out hok hl).mono ?_
  rintro e w1 ⟨g, rfl, hg, hc, b1⟩
  have KR1 := Lib.hid (KR.out.up b1)
  have hz1 := b1.size
  go_wp2_with fail
  refine (cAnyF hc).mono ?_
  rintro e w2 ⟨v', rfl, f, ho, hf, hd⟩
  have HU := Lib.hid (HB.out.tr (hd.below b1 hg))
  have HF := Lib.hid hf
  have KR2 := Lib.hid (KR1.out.dr_ hd (by omega))
  obtain ⟨_, rfl, av, rfl, htx⟩ := ho.1
  obtain ⟨oa, oc, rfl⟩ := htx.form
  have HX := Lib.hid (show Ob TX w2 w1.heap.size w2.heap.size (.slice oa f.args.length oc) f.args from ⟨htx, Nat.le_refl _⟩)
  have hz2 := hd.2.size
  have q0 := KR2.out.frozen 0
  have q1 := KR2.out.frozen 1
  have r0 : w2.cell? ⟨w.heap.size, 0, none⟩ = some (.string ⟨#[]⟩) := KR2.out.cell 0
  have r1 : w2.cell? ⟨w.heap.size, 1, none⟩ = some (.slice none 0 0) := KR2.out.cell 1
  clear hd b1 hf ho htx hc KR KR1 HH HB
  go_wp2
  clear q0 q1 r0 r1
  have hK9 := KR2.out.store2 (.string f.rel) (.slice oa f.args.length oc)
  have hz9 := size_store2 w2 w.heap.size (.string f.rel) (.slice oa f.args.length oc)
  have hU9 := Up.store2 HU.out (Nat.le_refl _) (.string f.rel) (.slice oa f.args.length oc)
  have hT9 := HX.out.store2 (p := w.heap.size) (.inl (by omega)) (.string f.rel) (.slice oa f.args.length oc)
  generalize ((w2.setCell ⟨w.heap.size, 0, none⟩ (.string f.rel)).setCell ⟨w.heap.size, 1, none⟩ (.slice oa f.args.length oc)) = W9 at *
  have e0 := hK9.cell0; have e1 := hK9.cell1
  refine bodyPost_ret (v := .agg #[.string f.rel, (.slice oa f.args.length oc)]) (by simp [results, Tryd.results11, go_sem, e0, e1]) rfl ?_
  exact ⟨_, rfl, f, ⟨⟨[_, _], rfl, _, rfl, hT9.1.mono (by omega) hT9.2⟩, Nat.le_refl _⟩, HF.out, hU9⟩
set_option maxHeartbeats 2000000 in
theorem cDrawFormFs {v : Value} {L : List Int} {lo hi : Nat} {w : World} (h : Ob BX w lo hi v L) (hok : ∀ n ∈ L, okB n) (hl : L.length ≤ 4096) :
    Calls Tryd.prog 16 #[v] w fun e w' => ∃ v', e = .returned v' ∧ ∃ M, Ob SF w' w.heap.size w'.heap.size v' M ∧ smallFs M ∧ Up w w' := by
  have HH := Lib.hid h
  clear h
  go_enter Tryd.func16, Tryd.ntmps16
  go_wp2_with fail
  refine (cNew HH.out hok hl).mono ?_
  rintro e w1 ⟨g, rfl, hg, hc, b1⟩
  go_wp2_with fail
  refine (cList hc).mono ?_
  rintro e w2 ⟨v', rfl, M, ho, hM, hd⟩
  have HU := Lib.hid (hd.below b1 hg)
  have HS := Lib.hid (SF.mono_ ho.1 b1.size (Nat.le_refl _))
  have HM := Lib.hid hM
  clear ho hM hd b1
  go_wp2
  go_ret
  exact ⟨_, rfl, M, ⟨HS.out, Nat.le_refl _⟩, HM.out, HU.out⟩
theorem parseF_known {s : ByteArray} {o : Option FactV} {b : Bool} {x : FactV} {w : World} (hp : parseB isFactB s = o) (hb : o.isSome = b) (hx : oF o = x) (hM : MxL w) (hs : s.size ≤ 1048576) :
    Calls Tryd.prog 12 #[.string s] w fun e w' => ∃ v', e = .returned (.tuple #[v', .bool b]) ∧ Ob (FO 9) w' w.heap.size w'.heap.size v' x ∧ Up w w' := by
  subst hp hb hx
  exact cParseF hM hs
theorem parseFs_known {s : ByteArray} {o : Option (List FactV)} {b : Bool} {x : List FactV} {w : World} (hp : parseFs s = o) (hb : o.isSome = b) (hx : o.getD [] = x) (hM : MxL w) (hs : s.size ≤ 1048576) :
    Calls Tryd.prog 18 #[.string s] w fun e w' => ∃ v', e = .returned (.tuple #[v', .bool b]) ∧ Ob (SO 9 35) w' w.heap.size w'.heap.size v' x ∧ Up w w' := by
  subst hp hb hx
  exact cParseFs hM hs
theorem formFs_size {L : List FactV} (h : L.length ≤ 31) : (formFs L).size ≤ 1048576 := by
  unfold formFs
  split
  · decide
  · split
    · have h1 := joinB_size (L.map formF) tSp
      have h2 := tlen_le (L := L.map formF) (n := 40) (fun s hs => by
        rw [List.mem_map] at hs
        obtain ⟨f, -, rfl⟩ := hs
        exact formF_size f)
      rw [List.length_map] at h2
      have h3 : tSp.size = 1 := by decide
      rw [h3, List.length_map] at h1
      omega
    · simp [ByteArray.size]
theorem empty_of {s : ByteArray} (h : s.size = 0) : s = ⟨#[]⟩ := by
  have : s.data.size = 0 := h
  cases s; simp_all [ByteArray.size]
theorem ne_of_size {s : ByteArray} (h1 : s.size ≠ 0) : (s.toList == []) = false := by
  cases h : (s.toList == []) with
  | false => rfl
  | true =>
    have := str_eq_t (a := s) (b := ⟨#[]⟩) (by simpa using h)
    exact absurd (by rw [this]; rfl) h1
set_option maxHeartbeats 20000000 in
set_option maxRecDepth 100000 in
theorem walk_FnFactText (w : World) (v0 : Value) (x0 : List Int) (m0 : BX w 0 w.heap.size v0 x0) (o0 : ∀ n ∈ x0, okB n) (H_MxL : MxL w) :
    Calls Tryd.prog 4 #[v0] w fun e w' => e = .returned (.bool true) ∧ Below w.heap.size w w' := by
  have HV : Hid (Ob BX w 0 w.heap.size v0 x0) := ⟨m0, Nat.le_refl _⟩
  have HT := Lib.hid H_MxL
  have HK := Lib.hid o0
  clear m0 H_MxL o0
  go_enter Tryd.func4, Tryd.ntmps4
  go_wp2_with fail
  refine (cBig HV.out).mono ?_
  rintro e w1 ⟨rfl, rfl⟩
  by_cases hbig : (4096 : Int) < x0.length
  · have hd : decide ((4096 : Int) < x0.length) = true := decide_eq_true hbig
    rw [hd]
    go_wp2
    go_ret
    exact ⟨rfl, Below.refl _ _⟩
  have hd : decide ((4096 : Int) < x0.length) = false := decide_eq_false hbig
  have hl : x0.length ≤ 4096 := by omega
  rw [hd]
  clear hd hbig
  go_wp2_with fail
  refine (cDrawFormF HV.out HK.out hl).mono ?_
  rintro e w1 ⟨v1, rfl, f, ho, hf, b1⟩
  have hz := okFW_fsz hf
  obtain ⟨_, rfl, av, rfl, htx⟩ := ho.1
  obtain ⟨oa, oc, rfl⟩ := htx.form
  have HX := Lib.hid ((show Ob AF w1 w.heap.size w1.heap.size (.agg #[.string f.rel, (.slice oa f.args.length oc)]) f from ho).up (Up.al1 w1 (.cells #[.string f.rel, (.slice oa f.args.length oc)] 35)))
  have HU1 := Lib.hid (b1.tr (Up.al1 w1 (.cells #[.string f.rel, (.slice oa f.args.length oc)] 35)))
  have HK1 := Lib.hid (Blk.new w1 35 #[.string f.rel, (.slice oa f.args.length oc)])
  have HT1 := Lib.hid (HT.out.up HU1.out)
  have hz0 : fsz f ≤ 1048576 := by omega
  clear ho hf b1 htx hz
  have hsz : (formF f).size ≤ 1048576 := by have := formF_size f; omega
  have hp := parse_formF f
  go_upto_region 4 with fail
  generalize hp1 : w1.heap.size = p at *
  generalize (w1.alloc (.cells #[.string f.rel, (.slice oa f.args.length oc)] 35)) = W1 at *
  have c0 : W1.cell? ⟨p, 0, none⟩ = some (.string f.rel) := HK1.out.cell 0
  have c1 : W1.cell? ⟨p, 1, none⟩ = some (.slice oa f.args.length oc) := HK1.out.cell 1
  go_wp2_with fail
  refine (cFormF HX.out hz0).mono ?_
  rintro e w2 ⟨rfl, b2⟩
  have HX2 := Lib.hid (HX.out.up b2)
  have HU2 := Lib.hid (HU1.out.tr b2)
  have HK2 := Lib.hid (HK1.out.up b2)
  have HT2 := Lib.hid (HT1.out.up b2)
  clear b2 HX HU1 HK1 HT1 c0 c1
  generalize formF f = s at *
  have hbs : (if isFactB f then some f else none).isSome = isFactB f := by cases isFactB f <;> rfl
  have hyx : isFactB f = true → oF (if isFactB f then some f else none) = f := fun h => by rw [h]; rfl
  generalize hq : (if isFactB f then some f else none) = o at *
  clear hq
  go_wp2_with fail
  refine (parseF_known hp hbs rfl HT2.out hsz).mono ?_
  rintro e w3 ⟨v3, rfl, ho, b3⟩
  generalize oF o = y at *
  obtain ⟨av3, rfl, hto⟩ := ho.1
  obtain ⟨oa3, oc3, rfl⟩ := hto.tx.form
  have HY3 := Lib.hid ((show Ob AF w3 w2.heap.size w3.heap.size (.agg #[.string y.rel, (.slice oa3 y.args.length oc3)]) y from ho.af).up (Up.al1 w3 (.cells #[.string y.rel, (.slice oa3 y.args.length oc3)] 35)))
  have HU3 := Lib.hid ((HU2.out.tr b3).tr (Up.al1 w3 (.cells #[.string y.rel, (.slice oa3 y.args.length oc3)] 35)))
  have HX3 := Lib.hid ((HX2.out.up b3).up (Up.al1 w3 (.cells #[.string y.rel, (.slice oa3 y.args.length oc3)] 35)))
  have HK3 := Lib.hid ((HK2.out.up b3).up (Up.al1 w3 (.cells #[.string y.rel, (.slice oa3 y.args.length oc3)] 35)))
  have HQ3 := Lib.hid (Blk.new w3 35 #[.string y.rel, (.slice oa3 y.args.length oc3)])
  clear b3 ho hto HX2 HU2 HK2 HT2
  go_upto_region 5 with fail
  generalize hq3 : w3.heap.size = q at *
  generalize (w3.alloc (.cells #[.string y.rel, (.slice oa3 y.args.length oc3)] 35)) = W3 at *
  have c0 : W3.cell? ⟨p, 0, none⟩ = some (.string f.rel) := HK3.out.cell 0
  have c1 : W3.cell? ⟨p, 1, none⟩ = some (.slice oa f.args.length oc) := HK3.out.cell 1
  clear hq3 hp hp1
  go_cut [5, 32] from 10 to 54 (fun s5 s32 wx => s32 = .bool false ∧ Up w wx)
  case first =>
    go_wp2_with fail
    refine (cIsFactS HX3.out hz0).mono ?_
    rintro e w4 ⟨rfl, b4⟩
    have HU4 := Lib.hid (HU3.out.tr b4)
    cases hB : isFactB f
    · rw [hB] at hbs
      go_wp2_with fail
      go_meet
      case rel => exact ⟨rfl, HU4.out⟩
    · have hy := hyx hB
      subst hy
      have HX4 := Lib.hid (HX3.out.up b4)
      have HY4 := Lib.hid (HY3.out.up b4)
      have k0 : w4.cell? ⟨p, 0, none⟩ = some (.string y.rel) := (HK3.out.up b4).cell 0
      have k1 : w4.cell? ⟨p, 1, none⟩ = some (.slice oa y.args.length oc) := (HK3.out.up b4).cell 1
      have l0 : w4.cell? ⟨q, 0, none⟩ = some (.string y.rel) := (HQ3.out.up b4).cell 0
      have l1 : w4.cell? ⟨q, 1, none⟩ = some (.slice oa3 y.args.length oc3) := (HQ3.out.up b4).cell 1
      clear c0 c1 b4 HU3 HX3 HY3
      go_wp2_with fail
      refine (cCmpFactsS HY4.out HX4.out hz0 hz0).mono ?_
      rintro e w5 ⟨rfl, b5⟩
      have HU5 := Lib.hid (HU4.out.tr b5)
      rw [ord_F.self]
      go_wp2_with fail
      go_meet
      case rel => exact ⟨rfl, HU5.out⟩
  case rest =>
    obtain ⟨rfl, hU⟩ := hcut
    have HUc := Lib.hid hU
    clear hU HU3 HX3 HY3 HK3 HQ3 hbs hyx c0 c1 hsz hz0
    go_wp2_with fail
    refine (cDrawFormFs (HV.out.up HUc.out) HK.out hl).mono ?_
    rintro e w4 ⟨v4, rfl, M, ho, hM, b4⟩
    have HU4 := Lib.hid (HUc.out.tr b4)
    have HT4 := Lib.hid (HT.out.up HU4.out)
    have HS4 := Lib.hid ho
    have hzM : fssz M ≤ 1048576 := by have := smallFs_z hM; omega
    have hml := hM.1
    clear ho hM b4 HUc
    obtain ⟨ma, mc, rfl⟩ := HS4.out.1.form
    go_wp2_with fail
    refine (cFormFs HS4.out hzM).mono ?_
    rintro e w5 ⟨rfl, b5⟩
    have HU5 := Lib.hid (HU4.out.tr b5)
    have HT5 := Lib.hid (HT4.out.up b5)
    have HS5 := Lib.hid (HS4.out.up b5)
    clear b5 HU4 HT4 HS4
    have hsM := formFs_size hml
    have hp := parse_formFs M
    have h0 := formFs_size0 M
    generalize formFs M = s at *
    cases hB : M.all isFactB
    all_goals rw [hB] at hp h0
    · rw [if_neg (by simp)] at hp
      have hs := empty_of (h0.2 rfl)
      subst hs
      go_wp2_with fail
      refine (parseFs_known hp rfl rfl HT5.out hsM).mono ?_
      rintro e w6 ⟨v6, rfl, ho, b6⟩
      have HU6 := Lib.hid (HU5.out.tr b6)
      obtain ⟨na, nc, rfl⟩ := ho.sf.1.form
      clear ho b6
      go_wp2
      go_ret
      exact ⟨rfl, HU6.out⟩
    · rw [if_pos rfl] at hp
      have h1 : s.size ≠ 0 := fun h => by have := h0.1 h; cases this
      have hne := ne_of_size h1
      clear h0 h1
      go_wp2_with fail
      refine (parseFs_known hp rfl rfl HT5.out hsM).mono ?_
      rintro e w6 ⟨v6, rfl, ho, b6⟩
      have HU6 := Lib.hid (HU5.out.tr b6)
      have HS6 := Lib.hid (HS5.out.up b6)
      have HY6 : Hid (Ob SF w6 w5.heap.size w6.heap.size v6 M) := ho.sf
      clear ho b6 hp
      go_wp2_with fail
      refine (cSameFactsS HY6.out HS6.out).mono ?_
      rintro e w7 ⟨rfl, b7⟩
      have HU7 := Lib.hid (HU6.out.tr b7)
      rw [sameFsB_refl]
      go_wp2
      go_ret
      exact ⟨rfl, HU7.out⟩
end Go.Proofs.YtjaifoeagocapaaDoor
