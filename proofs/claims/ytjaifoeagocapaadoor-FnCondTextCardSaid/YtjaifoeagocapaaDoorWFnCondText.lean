/- The walk of the law FnCondText: for every input the call returns true and nothing that was there has turned. -/
import Derived.Deep.DeepCutAuto
import Derived.Test.YtjaifoeagocapaaDoorDr2
import Derived.Test.YtjaifoeagocapaaDoorDr7
import Derived.Test.YtjaifoeagocapaaDoorCond2
import Derived.Test.YtjaifoeagocapaaDoorParC
namespace Go.Proofs.YtjaifoeagocapaaDoor
open Go.RowKit
attribute [local go_sem ↓] Go.wp_at_zero Go.wp_at_succ
set_option linter.unusedVariables false
theorem formC_size {x : CondV} (h : okCW x) : (formC x).size ≤ 1000 := by
  have h1 := okW_size h.2.1
  have h2 := okW_size h.2.2
  have h3 := formP_le x.pat
  have h4 := sgK_size x.kind
  have h5 : tNot.size = 4 := rfl
  unfold formC
  split
  · split
    · omega
    · split
      · rw [ByteArray.size_append]; omega
      · rw [ByteArray.size_append, ByteArray.size_append]; omega
  · simp [ByteArray.size]
theorem empty_sz {s : ByteArray} (h : s.size = 0) : s = ⟨#[]⟩ := by
  have : s.data.size = 0 := h
  cases s; simp_all [ByteArray.size]
theorem ne_of_size {s : ByteArray} (h1 : s.size ≠ 0) : (s.toList == []) = false := by
  cases h : (s.toList == []) with
  | false => rfl
  | true =>
    have := str_eq_t (a := s) (b := ⟨#[]⟩) (by simpa using h)
    exact absurd (by rw [this]; rfl) h1
theorem parseC_known {s : ByteArray} {o : Option CondV} {b : Bool} {x : CondV} {w : World} (hp : parseC s = o) (hb : o.isSome = b) (hx : oC o = x) (hT : TsT w) (hM : MxL w) (hs : s.size ≤ 1000) :
    Calls Tryd.prog 8 #[.string s] w fun e w' => ∃ v', e = .returned (.tuple #[v', .bool b]) ∧ Ob AC w' w.heap.size w'.heap.size v' x ∧ Up w w' := by
  subst hp hb hx
  exact cParseC hT hM hs
theorem sameCB_rf (x : CondV) : sameCB x x = true := by
  unfold sameCB; simp [sameFB_iff.2 rfl]
theorem sameC_known {v v' : Value} {x y : CondV} {b : Bool} {lo hi lo' hi' : Nat} {w : World} (h : Ob AC w lo hi v x) (h' : Ob AC w lo' hi' v' y) (hb : sameCB x y = b) :
    Calls Tryd.prog 10 #[v, v'] w fun e w' => e = .returned (.bool b) ∧ Up w w' := by
  subst hb
  exact cSameCond h h'
theorem isC_known {v : Value} {x : CondV} {b : Bool} {lo hi : Nat} {w : World} (h : Ob AC w lo hi v x) (hz : csz x ≤ 1048576) (hb : isCondB x = b) :
    Calls Tryd.prog 9 #[v] w fun e w' => e = .returned (.bool b) ∧ Up w w' := by
  subst hb
  exact cIsCondS h hz
set_option maxHeartbeats 2000000 in
set_option maxRecDepth 100000 in
theorem cDrawFormC {v : Value} {L : List Int} {lo hi : Nat} {w : World} (h : Ob BX w lo hi v L) (hok : ∀ n ∈ L, okB n) (hl : L.length ≤ 4096) :
    Calls Tryd.prog 6 #[v] w fun e w' => ∃ v', e = .returned v' ∧ ∃ x, Ob AC w' w.heap.size w'.heap.size v' x ∧ okCW x ∧ Up w w' := by
  have KR := Lib.hid (Blk.new w 28 #[.int .i64 0, .string ⟨#[]⟩, .slice none 0 0, .string ⟨#[]⟩, .string ⟨#[]⟩])
  have hb0 : Up w (w.alloc (.cells #[.int .i64 0, .string ⟨#[]⟩, .slice none 0 0, .string ⟨#[]⟩, .string ⟨#[]⟩] 28)) := Up.al1 _ _
  have HH := Lib.hid (h.up hb0)
  have HB := Lib.hid hb0
  have hws : (w.alloc (.cells #[.int .i64 0, .string ⟨#[]⟩, .slice none 0 0, .string ⟨#[]⟩, .string ⟨#[]⟩] 28)).heap.size = w.heap.size + 1 := by simp
  clear h hb0
  go_enter Tryd.func6, Tryd.ntmps6
  go_wp2_with fail
  generalize (w.alloc (.cells #[.int .i64 0, .string ⟨#[]⟩, .slice none 0 0, .string ⟨#[]⟩, .string ⟨#[]⟩] 28)) = W at *
  refine (cNew HH.out hok hl).mono ?_
  rintro e w1 ⟨g, rfl, hg, hc, b1⟩
  have KR1 := Lib.hid (KR.out.up b1)
  have hz1 := b1.size
  go_wp2_with fail
  refine (cAnyC hc).mono ?_
  rintro e w2 ⟨v', rfl, x, ho, hx, hd⟩
  have HU := Lib.hid (HB.out.tr (hd.below b1 hg))
  have HX := Lib.hid hx
  have KR2 := Lib.hid (KR1.out.dr_ hd (by omega))
  obtain ⟨oa, oc, rfl⟩ := ho.1.form
  have HT := Lib.hid (AC.args ho.1)
  have hz2 := hd.2.size
  clear hd b1 hx ho hc KR KR1 HH HB
  obtain ⟨r0, r1, r2, r3, r4⟩ := KR2.out.five
  have q0 := KR2.out.frozen 0
  have q1 := KR2.out.frozen 1
  have q2 := KR2.out.frozen 2
  have q3 := KR2.out.frozen 3
  have q4 := KR2.out.frozen 4
  go_wp2
  clear r0 r1 r2 r3 r4 q0 q1 q2 q3 q4
  have hK9 := Blk.st5 KR2.out (.int .i64 x.kind) (.string x.pat.rel) (.slice oa x.pat.args.length oc) (.string x.left) (.string x.right)
  have hU9 := Up.st5 HU.out (Nat.le_refl _) (.int .i64 x.kind) (.string x.pat.rel) (.slice oa x.pat.args.length oc) (.string x.left) (.string x.right)
  have hT9 := HT.out.keep (Stays.st5 w2 (p := w.heap.size) (.inl (by omega)) (.int .i64 x.kind) (.string x.pat.rel) (.slice oa x.pat.args.length oc) (.string x.left) (.string x.right))
  have hz9 := size_st5 w2 w.heap.size (.int .i64 x.kind) (.string x.pat.rel) (.slice oa x.pat.args.length oc) (.string x.left) (.string x.right)
  generalize (((((w2.setCell ⟨w.heap.size, 0, none⟩ (.int .i64 x.kind)).setCell ⟨w.heap.size, 1, none⟩ (.string x.pat.rel)).setCell ⟨w.heap.size, 2, none⟩ (.slice oa x.pat.args.length oc)).setCell ⟨w.heap.size, 3, none⟩ (.string x.left)).setCell ⟨w.heap.size, 4, none⟩ (.string x.right)) = W9 at *
  obtain ⟨e0, e1, e2, e3, e4⟩ := hK9.five
  refine bodyPost_ret (v := .agg #[.int .i64 x.kind, .string x.pat.rel, .slice oa x.pat.args.length oc, .string x.left, .string x.right]) (by simp [results, Tryd.results6, go_sem, e0, e1, e2, e3, e4]) rfl ?_
  exact ⟨_, rfl, x, ⟨⟨[_, _, _, _, _], rfl, _, rfl, hT9.mono (by omega) (by omega)⟩, Nat.le_refl _⟩, HX.out, hU9⟩
set_option maxHeartbeats 20000000 in
set_option maxRecDepth 100000 in
theorem walk_FnCondText (w : World) (v0 : Value) (x0 : List Int) (m0 : BX w 0 w.heap.size v0 x0) (o0 : ∀ n ∈ x0, okB n) (H_MxL : MxL w) (H_TsT : TsT w) :
    Calls Tryd.prog 3 #[v0] w fun e w' => e = .returned (.bool true) ∧ Below w.heap.size w w' := by
  have HV : Hid (Ob BX w 0 w.heap.size v0 x0) := ⟨m0, Nat.le_refl _⟩
  have HM := Lib.hid H_MxL
  have HT := Lib.hid H_TsT
  have HK := Lib.hid o0
  clear m0 H_MxL H_TsT o0
  go_enter Tryd.func3, Tryd.ntmps3
  go_wp2_with fail
  refine (cBig HV.out).mono ?_
  rintro e w1 ⟨rfl, rfl⟩
  by_cases hbig : (4096 : Int) < x0.length
  · have hd : decide ((4096 : Int) < x0.length) = true := decide_eq_true hbig
    rw [hd]
    go_wp2
    go_ret
    exact ⟨rfl, Below.refl _ _⟩
  have hd : decide ((4096 : Int) < x0.length) = false := decide_eq_false hbig
  have hl : x0.length ≤ 4096 := by omega
  rw [hd]
  clear hd hbig
  go_wp2_with fail
  refine (cDrawFormC HV.out HK.out hl).mono ?_
  rintro e w1 ⟨v1, rfl, x, ho, hx, b1⟩
  have hz := okCW_csz hx
  have hn := okW_not hx.2.1
  have hsz := formC_size hx
  obtain ⟨oa, oc, rfl⟩ := ho.1.form
  have hal := Up.al1 w1 (.cells #[.int .i64 x.kind, .string x.pat.rel, .slice oa x.pat.args.length oc, .string x.left, .string x.right] 28)
  have HX := Lib.hid (ho.up hal)
  have HU1 := Lib.hid (b1.tr hal)
  have HK1 := Lib.hid (Blk.new w1 28 #[.int .i64 x.kind, .string x.pat.rel, .slice oa x.pat.args.length oc, .string x.left, .string x.right])
  have HT1 := Lib.hid (HT.out.up HU1.out)
  have HM1 := Lib.hid (HM.out.up HU1.out)
  have hz0 : csz x ≤ 1048576 := by omega
  clear ho hx b1 hal hz HT HM
  have hp := parse_formC (x := x) hn
  have h0 := formC_size0 x
  clear hn
  go_upto_region 4 with fail
  generalize hp1 : w1.heap.size = p at *
  generalize (w1.alloc (.cells #[.int .i64 x.kind, .string x.pat.rel, .slice oa x.pat.args.length oc, .string x.left, .string x.right] 28)) = W1 at *
  obtain ⟨r0, r1, r2, r3, r4⟩ := HK1.out.five
  go_wp2_with fail
  refine (cFormC HT1.out HX.out hz0).mono ?_
  rintro e w2 ⟨rfl, b2⟩
  have HX2 := Lib.hid (HX.out.up b2)
  have HU2 := Lib.hid (HU1.out.tr b2)
  have HK2 := Lib.hid (HK1.out.up b2)
  have HT2 := Lib.hid (HT1.out.up b2)
  have HM2 := Lib.hid (HM1.out.up b2)
  clear b2 HX HU1 HK1 HT1 HM1 r0 r1 r2 r3 r4
  generalize formC x = s at *
  cases hB : isCondB x
  all_goals
    rw [hB] at hp h0
  · rw [if_neg (by simp)] at hp
    have hs := empty_sz (h0.2 rfl)
    subst hs
    go_wp2_with fail
    refine (parseC_known hp rfl rfl HT2.out HM2.out hsz).mono ?_
    rintro e w3 ⟨v3, rfl, ho, b3⟩
    generalize hy : oC none = y at *
    obtain ⟨oa3, oc3, rfl⟩ := ho.1.form
    have hal := b3.tr (Up.al1 w3 (.cells #[.int .i64 y.kind, .string y.pat.rel, .slice oa3 y.pat.args.length oc3, .string y.left, .string y.right] 28))
    have HY3 := Lib.hid (ho.up (Up.al1 w3 (.cells #[.int .i64 y.kind, .string y.pat.rel, .slice oa3 y.pat.args.length oc3, .string y.left, .string y.right] 28)))
    have HU3 := Lib.hid (HU2.out.tr hal)
    have HX3 := Lib.hid (HX2.out.up hal)
    have HK3 := Lib.hid (HK2.out.up hal)
    have HQ3 := Lib.hid (Blk.new w3 28 #[.int .i64 y.kind, .string y.pat.rel, .slice oa3 y.pat.args.length oc3, .string y.left, .string y.right])
    clear hal b3 ho HX2 HU2 HK2
    go_upto_region 6 with fail
    generalize hq3 : w3.heap.size = q at *
    generalize (w3.alloc (.cells #[.int .i64 y.kind, .string y.pat.rel, .slice oa3 y.pat.args.length oc3, .string y.left, .string y.right] 28)) = W3 at *
    clear hq3
    obtain ⟨r0, r1, r2, r3, r4⟩ := HK3.out.five
    go_wp2_with fail
    refine (isC_known HX3.out hz0 hB).mono ?_
    rintro e w4 ⟨rfl, b4⟩
    have HU4 := Lib.hid (HU3.out.tr b4)
    go_wp2
    go_ret
    exact ⟨rfl, HU4.out⟩
  · rw [if_pos rfl] at hp
    have h1 : s.size ≠ 0 := fun h => by have := h0.1 h; cases this
    have hne := ne_of_size h1
    clear h0 h1
    go_wp2_with fail
    refine (parseC_known hp rfl rfl HT2.out HM2.out hsz).mono ?_
    rintro e w3 ⟨v3, rfl, ho, b3⟩
    generalize hy : oC (some x) = y at *
    obtain ⟨oa3, oc3, rfl⟩ := ho.1.form
    have hal := b3.tr (Up.al1 w3 (.cells #[.int .i64 y.kind, .string y.pat.rel, .slice oa3 y.pat.args.length oc3, .string y.left, .string y.right] 28))
    have HY3 := Lib.hid (ho.up (Up.al1 w3 (.cells #[.int .i64 y.kind, .string y.pat.rel, .slice oa3 y.pat.args.length oc3, .string y.left, .string y.right] 28)))
    have HU3 := Lib.hid (HU2.out.tr hal)
    have HX3 := Lib.hid (HX2.out.up hal)
    have HK3 := Lib.hid (HK2.out.up hal)
    have HQ3 := Lib.hid (Blk.new w3 28 #[.int .i64 y.kind, .string y.pat.rel, .slice oa3 y.pat.args.length oc3, .string y.left, .string y.right])
    clear hal b3 ho HX2 HU2 HK2
    go_upto_region 6 with fail
    generalize hq3 : w3.heap.size = q at *
    generalize (w3.alloc (.cells #[.int .i64 y.kind, .string y.pat.rel, .slice oa3 y.pat.args.length oc3, .string y.left, .string y.right] 28)) = W3 at *
    clear hq3
    obtain ⟨r0, r1, r2, r3, r4⟩ := HK3.out.five
    have hsame : sameCB x y = true := by rw [← hy]; exact sameCB_rf x
    clear hy hp
    go_wp2_with fail
    refine (isC_known HX3.out hz0 hB).mono ?_
    rintro e w4 ⟨rfl, b4⟩
    have HU4 := Lib.hid (HU3.out.tr b4)
    have HX4 := Lib.hid (HX3.out.up b4)
    have HY4 := Lib.hid (HY3.out.up b4)
    have K4 := HK3.out.up b4
    have Q4 := HQ3.out.up b4
    clear r0 r1 r2 r3 r4
    obtain ⟨r0, r1, r2, r3, r4⟩ := K4.five
    obtain ⟨g0, g1, g2, g3, g4⟩ := Q4.five
    clear b4 HU3 HX3 HY3 K4 Q4
    go_wp2_with fail
    refine (sameC_known HX4.out HY4.out hsame).mono ?_
    rintro e w5 ⟨rfl, b5⟩
    have HU5 := Lib.hid (HU4.out.tr b5)
    clear r0 r1 r2 r3 r4 g0 g1 g2 g3 g4
    go_wp2
    go_ret
    exact ⟨rfl, HU5.out⟩
end Go.Proofs.YtjaifoeagocapaaDoor
