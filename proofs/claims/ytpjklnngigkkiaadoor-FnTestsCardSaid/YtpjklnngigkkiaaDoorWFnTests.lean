/- The walk of the law FnTests: for every input the call returns true and nothing that was there has turned. -/
import Derived.Deep.DeepCutAuto
import Derived.Test.YtpjklnngigkkiaaDoorDr2
import Derived.Test.YtpjklnngigkkiaaDoorDr6
import Derived.Test.YtpjklnngigkkiaaDoorDr7
import Derived.Test.YtpjklnngigkkiaaDoorPlH
namespace Go.Proofs.YtpjklnngigkkiaaDoor
open Go.RowKit
attribute [local go_sem ↓] Go.wp_at_zero Go.wp_at_succ
set_option linter.unusedVariables false
theorem AC.args2 {w : World} {lo hi xc : Nat} {xa : Option Addr} {c : CondV} (h : AC w lo hi (.agg #[.int .i64 c.kind, .string c.pat.rel, .slice xa c.pat.args.length xc, .string c.left, .string c.right]) c) : TX w lo hi (.slice xa c.pat.args.length xc) c.pat.args := by
  obtain ⟨_, e9, av, e8, htx⟩ := h
  subst e8
  injection e9 with e9
  have e7 : Value.slice xa c.pat.args.length xc = av := by have := congrArg (fun q => q[2]?) e9; simpa using this
  rw [e7]; exact htx
theorem SP.mono_ {w : World} {lo hi lo' hi' : Nat} {v : Value} {L : Prs} (h : SP w lo hi v L) (h1 : lo' ≤ lo) (h2 : hi ≤ hi') : SP w lo' hi' v L :=
  SL.mono h h1 h2 fun cs x hx => hx
set_option maxHeartbeats 2000000 in
set_option maxRecDepth 100000 in
theorem cDrawHT {v : Value} {L : List Int} {lo hi : Nat} {w : World} (h : Ob BX w lo hi v L) (hok : ∀ n ∈ L, okB n) (hl : L.length ≤ 4096) :
    Calls Tryd.prog 40 #[v] w fun e w' => ∃ v' vb, e = .returned (.tuple #[v', vb]) ∧ ∃ x B, Ob AC w' w.heap.size w'.heap.size v' x ∧ Ob SP w' w.heap.size w'.heap.size vb B ∧ okCW x ∧ smallP 7 B ∧ Up w w' := by
  have KR := Lib.hid (Blk.new w 47 #[.int .i64 0, .string ⟨#[]⟩, .slice none 0 0, .string ⟨#[]⟩, .string ⟨#[]⟩])
  have hb0 : Up w (w.alloc (.cells #[.int .i64 0, .string ⟨#[]⟩, .slice none 0 0, .string ⟨#[]⟩, .string ⟨#[]⟩] 47)) := Up.al1 _ _
  have HH := Lib.hid (h.up hb0)
  have HB := Lib.hid hb0
  have hws : (w.alloc (.cells #[.int .i64 0, .string ⟨#[]⟩, .slice none 0 0, .string ⟨#[]⟩, .string ⟨#[]⟩] 47)).heap.size = w.heap.size + 1 := by simp
  clear h hb0
  go_enter Tryd.func40, Tryd.ntmps40
  go_wp2_with fail
  generalize (w.alloc (.cells #[.int .i64 0, .string ⟨#[]⟩, .slice none 0 0, .string ⟨#[]⟩, .string ⟨#[]⟩] 47)) = W at *
  refine (cNew HH.out hok hl).mono ?_
  rintro e w1 ⟨g, rfl, hg, hc, b1⟩
  have KR1 := Lib.hid (KR.out.up b1)
  have hz1 := b1.size
  have HB1 := Lib.hid b1
  have hgl := hc.lt
  clear b1 KR
  go_wp2_with fail
  refine (cOnce (n := 4) hc (by decide) (by decide)).mono ?_
  rintro e w2 ⟨b, rfl, hd⟩
  have HD2 := Lib.hid hd
  have KR2 := Lib.hid (KR1.out.dr_ hd (by omega))
  have hz2 := hd.2.size
  clear hd hc KR1
  cases b
  · go_wp2_with fail
    refine (cTerm HD2.out.1).mono ?_
    rintro e w3 ⟨s, rfl, hs, hd⟩
    have HS := Lib.hid hs
    have HD3 := Lib.hid (HD2.out.tr hd)
    have KR3 := Lib.hid (KR2.out.dr_ hd (by omega))
    clear hs hd HD2 KR2
    go_wp2_with fail
    refine (cTerm HD3.out.1).mono ?_
    rintro e w4 ⟨s2, rfl, hs, hd⟩
    have HS2 := Lib.hid hs
    have HD4 := Lib.hid (HD3.out.tr hd)
    have KR4 := Lib.hid (KR3.out.dr_ hd (by omega))
    clear hs hd HD3 KR3
    go_wp2_with fail
    refine (cTest4 HD4.out.1).mono ?_
    rintro e w5 ⟨q, rfl, -, hd⟩
    have HD5 := Lib.hid (HD4.out.tr hd)
    have KR5 := Lib.hid (KR4.out.dr_ hd (by omega))
    clear hd HD4 KR4
    go_wp2_with fail
    refine (cAnyB HD5.out.1).mono ?_
    rintro e w6 ⟨vb, rfl, B, hob, hbs, hd⟩
    have HBs := Lib.hid hbs
    have HD6 := Lib.hid (HD5.out.tr hd)
    have KR6 := Lib.hid (KR5.out.dr_ hd (by omega))
    have HBx := Lib.hid hob.1.sp
    have hz5 := HD5.out.2.size
    have hz6 := hd.2.size
    clear hob hbs hd HD5 KR5
    obtain ⟨r0, r1, r2, r3, r4⟩ := KR6.out.five
    have q0 := KR6.out.frozen 0
    have q1 := KR6.out.frozen 1
    have q2 := KR6.out.frozen 2
    have q3 := KR6.out.frozen 3
    have q4 := KR6.out.frozen 4
    have HU := Lib.hid (HB.out.tr (HD6.out.below HB1.out hg))
    have hzw := (HD6.out).2.size
    go_wp2
    clear r0 r1 r2 r3 r4 q0 q1 q2 q3 q4
    have hK9 := Blk.st5 KR6.out (.int .i64 q) (.string ⟨#[]⟩) (.slice none 0 0) (.string s) (.string s2)
    have hU9 := Up.st5 HU.out (Nat.le_refl _) (.int .i64 q) (.string ⟨#[]⟩) (.slice none 0 0) (.string s) (.string s2)
    have hB9 := SLP.keep HBx.out (Stays.st5 w6 (p := w.heap.size) (.inl (by omega)) (.int .i64 q) (.string ⟨#[]⟩) (.slice none 0 0) (.string s) (.string s2))
    have hz9 := size_st5 w6 w.heap.size (.int .i64 q) (.string ⟨#[]⟩) (.slice none 0 0) (.string s) (.string s2)
    generalize (((((w6.setCell ⟨w.heap.size, 0, none⟩ (.int .i64 q)).setCell ⟨w.heap.size, 1, none⟩ (.string ⟨#[]⟩)).setCell ⟨w.heap.size, 2, none⟩ (.slice none 0 0)).setCell ⟨w.heap.size, 3, none⟩ (.string s)).setCell ⟨w.heap.size, 4, none⟩ (.string s2)) = W9 at *
    obtain ⟨e0, e1, e2, e3, e4⟩ := hK9.five
    refine bodyPost_ret (v := .tuple #[.agg #[.int .i64 q, .string ⟨#[]⟩, .slice none 0 0, .string s, .string s2], vb]) (by simp [results, Tryd.results40, go_sem, e0, e1, e2, e3, e4]) rfl ?_
    exact ⟨_, _, rfl, ⟨q, ⟨⟨#[]⟩, []⟩, s, s2⟩, B, ⟨⟨[_, _, _, _, _], rfl, _, rfl, (TO.nil_ 9 _ _ _).tx⟩, Nat.le_refl _⟩, ⟨SP.mono_ hB9 (by omega) (by omega), Nat.le_refl _⟩, ⟨okFW_nil, HS.out, HS2.out⟩, HBs.out, hU9⟩
  · go_wp2_with fail
    refine (cAnyC HD2.out.1).mono ?_
    rintro e w3 ⟨v3, rfl, x, ho, hx, hd⟩
    obtain ⟨oa, oc, rfl⟩ := ho.1.form
    have HX := Lib.hid hx
    have HT3 := Lib.hid (show Ob TX w3 w2.heap.size w3.heap.size (.slice oa x.pat.args.length oc) x.pat.args from ⟨AC.args2 ho.1, Nat.le_refl _⟩)
    have HD3 := Lib.hid (HD2.out.tr hd)
    have KR3 := Lib.hid (KR2.out.dr_ hd (by omega))
    have hz3 := hd.2.size
    clear ho hx hd HD2 KR2
    go_wp2_with fail
    refine (cAnyB HD3.out.1).mono ?_
    rintro e w6 ⟨vb, rfl, B, hob, hbs, hd⟩
    have HBs := Lib.hid hbs
    have HD6 := Lib.hid (HD3.out.tr hd)
    have KR6 := Lib.hid (KR3.out.dr_ hd (by omega))
    have HT6 := Lib.hid (HT3.out.dr_ hd (.inr (by omega)))
    have HBx := Lib.hid hob.1.sp
    have hz6 := hd.2.size
    clear hob hbs hd HD3 KR3 HT3
    obtain ⟨r0, r1, r2, r3, r4⟩ := KR6.out.five
    have q0 := KR6.out.frozen 0
    have q1 := KR6.out.frozen 1
    have q2 := KR6.out.frozen 2
    have q3 := KR6.out.frozen 3
    have q4 := KR6.out.frozen 4
    have HU := Lib.hid (HB.out.tr (HD6.out.below HB1.out hg))
    have hzw := (HD6.out).2.size
    go_wp2
    clear r0 r1 r2 r3 r4 q0 q1 q2 q3 q4
    have hK9 := Blk.st5 KR6.out (.int .i64 x.kind) (.string x.pat.rel) (.slice oa x.pat.args.length oc) (.string x.left) (.string x.right)
    have hU9 := Up.st5 HU.out (Nat.le_refl _) (.int .i64 x.kind) (.string x.pat.rel) (.slice oa x.pat.args.length oc) (.string x.left) (.string x.right)
    have hT9 := HT6.out.1.keep (Stays.st5 w6 (p := w.heap.size) (.inl (by omega)) (.int .i64 x.kind) (.string x.pat.rel) (.slice oa x.pat.args.length oc) (.string x.left) (.string x.right))
    have hB9 := SLP.keep HBx.out (Stays.st5 w6 (p := w.heap.size) (.inl (by omega)) (.int .i64 x.kind) (.string x.pat.rel) (.slice oa x.pat.args.length oc) (.string x.left) (.string x.right))
    have hz9 := size_st5 w6 w.heap.size (.int .i64 x.kind) (.string x.pat.rel) (.slice oa x.pat.args.length oc) (.string x.left) (.string x.right)
    generalize (((((w6.setCell ⟨w.heap.size, 0, none⟩ (.int .i64 x.kind)).setCell ⟨w.heap.size, 1, none⟩ (.string x.pat.rel)).setCell ⟨w.heap.size, 2, none⟩ (.slice oa x.pat.args.length oc)).setCell ⟨w.heap.size, 3, none⟩ (.string x.left)).setCell ⟨w.heap.size, 4, none⟩ (.string x.right)) = W9 at *
    obtain ⟨e0, e1, e2, e3, e4⟩ := hK9.five
    refine bodyPost_ret (v := .tuple #[.agg #[.int .i64 x.kind, .string x.pat.rel, .slice oa x.pat.args.length oc, .string x.left, .string x.right], vb]) (by simp [results, Tryd.results40, go_sem, e0, e1, e2, e3, e4]) rfl ?_
    exact ⟨_, _, rfl, x, B, ⟨⟨[_, _, _, _, _], rfl, _, rfl, hT9.mono (by omega) (by omega)⟩, Nat.le_refl _⟩, ⟨SP.mono_ hB9 (by omega) (by omega), Nat.le_refl _⟩, HX.out, HBs.out, hU9⟩
theorem holdsT_known {v vb : Value} {x : CondV} {b : Prs} {r : Bool} {lo hi lo' hi' : Nat} {w : World} (hT : Tabs w) (h : Ob AC w lo hi v x) (hb : Ob SP w lo' hi' vb b) (hz : csz x ≤ 1048576) (hzb : psz b ≤ 1048576) (hr : holdsTB x b = r) :
    Calls Tryd.prog 41 #[v, vb] w fun e w' => e = .returned (.bool r) ∧ Up w w' := by
  subst hr
  exact cHoldsTest hT h hb hz hzb
theorem isB_known {v : Value} {x : Prs} {r : Bool} {lo hi : Nat} {w : World} (h : Ob SP w lo hi v x) (hz : psz x ≤ 1048576) (hr : isBindB x = r) :
    Calls Tryd.prog 27 #[v] w fun e w' => e = .returned (.bool r) ∧ Up w w' := by
  subst hr
  exact cIsBindingS h hz
theorem valOf_known {v : Value} {x : Prs} {t s : ByteArray} {r : Bool} {lo hi : Nat} {w : World} (h : Ob SP w lo hi v x) (hz : t.size ≤ 1048576) (hs : valS x t = s) (hr : valOk x t = r) :
    Calls Tryd.prog 42 #[v, .string t] w fun e w' => e = .returned (.tuple #[.string s, .bool r]) ∧ Up w w' := by
  subst hs hr
  exact cValueOfS h hz
theorem testC_sz {k : Int} {l r : ByteArray} (hl : l.size ≤ 9) (hr : r.size ≤ 9) : csz (testC k l r) ≤ 1048576 := by
  show fsz ⟨⟨#[]⟩, []⟩ + l.size + r.size ≤ 1048576
  have : fsz ⟨⟨#[]⟩, []⟩ = 0 := rfl
  omega
theorem testC_ob {w : World} (k : Int) (l r : ByteArray) : Ob AC w 0 w.heap.size (.agg #[.int .i64 k, .string ⟨#[]⟩, .slice none 0 0, .string l, .string r]) (testC k l r) :=
  ⟨⟨[_, _, _, _, _], rfl, _, rfl, (TO.nil_ 9 _ _ _).tx⟩, Nat.le_refl _⟩
set_option maxHeartbeats 20000000 in
set_option maxRecDepth 100000 in
theorem walk_FnTests (w : World) (v0 : Value) (x0 : List Int) (m0 : BX w 0 w.heap.size v0 x0) (o0 : ∀ n ∈ x0, okB n) (H_Tabs : Tabs w) :
    Calls Tryd.prog 7 #[v0] w fun e w' => e = .returned (.bool true) ∧ Below w.heap.size w w' := by
  have HV : Hid (Ob BX w 0 w.heap.size v0 x0) := ⟨m0, Nat.le_refl _⟩
  have HT := Lib.hid H_Tabs
  have HK := Lib.hid o0
  clear m0 H_Tabs o0
  go_enter Tryd.func7, Tryd.ntmps7
  go_wp2_with fail
  refine (cBig HV.out).mono ?_
  rintro e w1 ⟨rfl, rfl⟩
  by_cases hbig : (4096 : Int) < x0.length
  · have hd : decide ((4096 : Int) < x0.length) = true := decide_eq_true hbig
    rw [hd]
    go_wp2
    go_ret
    exact ⟨rfl, Below.refl _ _⟩
  have hd : decide ((4096 : Int) < x0.length) = false := decide_eq_false hbig
  have hl : x0.length ≤ 4096 := by omega
  rw [hd]
  clear hd hbig
  go_wp2_with fail
  refine (cDrawHT HV.out HK.out hl).mono ?_
  rintro e w1 ⟨v1, vb, rfl, x, B, ho, hob, hx, hbs, b1⟩
  have hzl := okW_size hx.2.1
  have hzr := okW_size hx.2.2
  have hzb : psz B ≤ 1048576 := by have := smallP_psz hbs; omega
  obtain ⟨oa, oc, rfl⟩ := ho.1.form
  obtain ⟨ba, bc, rfl⟩ := hob.1.form
  have hal := Up.al1 w1 (.cells #[.int .i64 x.kind, .string x.pat.rel, .slice oa x.pat.args.length oc, .string x.left, .string x.right] 47)
  have HB1 := Lib.hid (hob.up hal)
  have HU1 := Lib.hid (b1.tr hal)
  have HK1 := Lib.hid (Blk.new w1 47 #[.int .i64 x.kind, .string x.pat.rel, .slice oa x.pat.args.length oc, .string x.left, .string x.right])
  clear ho hx hbs hob b1 hal
  go_upto_region 4 with fail
  generalize hp1 : w1.heap.size = p at *
  generalize (w1.alloc (.cells #[.int .i64 x.kind, .string x.pat.rel, .slice oa x.pat.args.length oc, .string x.left, .string x.right] 47)) = W1 at *
  have HT1 := Lib.hid (HT.out.up HU1.out)
  obtain ⟨r0, r1, r2, r3, r4⟩ := HK1.out.five
  clear HT hp1
  generalize x.left = l at *
  generalize x.right = r at *
  have LN := fun (h : isBindB B = false ∨ valOk B l = false ∨ valOk B r = false) => (show holdsTB (testC 3 l r) B = false ∧ holdsTB (testC 4 l r) B = false ∧ holdsTB (testC 5 l r) B = false ∧ holdsTB (testC 5 r l) B = false from ⟨test_no (.inl rfl) h, test_no (.inr (.inl rfl)) h, test_no (.inr (.inr rfl)) h, test_no (.inr (.inr rfl)) (by rcases h with h | h | h; exact .inl h; exact .inr (.inr h); exact .inr (.inl h))⟩)
  have LT := test_law (b := B) (l := l) (r := r)
  have s3 := testC_sz (k := 3) hzl hzr
  have s4 := testC_sz (k := 4) hzl hzr
  have s5 := testC_sz (k := 5) hzl hzr
  have s6 := testC_sz (k := 5) hzr hzl
  generalize h3 : holdsTB (testC 3 l r) B = t3 at *
  generalize h4 : holdsTB (testC 4 l r) B = t4 at *
  generalize h5 : holdsTB (testC 5 l r) B = t5 at *
  generalize h6 : holdsTB (testC 5 r l) B = t6 at *
  generalize ho1 : valOk B l = one at *
  generalize ho2 : valOk B r = two at *
  generalize hbd : isBindB B = bnd at *
  have HLN := Lib.hid LN
  have HLT := Lib.hid LT
  clear LN LT
  go_wp2_with fail
  clear r0 r1 r2 r3 r4
  refine (holdsT_known HT1.out (testC_ob 3 l r) HB1.out s3 hzb h3).mono ?_
  rintro e w2 ⟨rfl, b2⟩
  have HT2 := Lib.hid (HT1.out.up b2)
  have HB2 := Lib.hid (HB1.out.up b2)
  have HU2 := Lib.hid (HU1.out.tr b2)
  clear b2 HT1 HB1 HU1
  go_wp2_with fail
  refine (holdsT_known HT2.out (testC_ob 4 l r) HB2.out s4 hzb h4).mono ?_
  rintro e w3 ⟨rfl, b3⟩
  have HT3 := Lib.hid (HT2.out.up b3)
  have HB3 := Lib.hid (HB2.out.up b3)
  have HU3 := Lib.hid (HU2.out.tr b3)
  clear b3 HT2 HB2 HU2
  go_wp2_with fail
  refine (holdsT_known HT3.out (testC_ob 5 l r) HB3.out s5 hzb h5).mono ?_
  rintro e w4 ⟨rfl, b4⟩
  have HT4 := Lib.hid (HT3.out.up b4)
  have HB4 := Lib.hid (HB3.out.up b4)
  have HU4 := Lib.hid (HU3.out.tr b4)
  clear b4 HT3 HB3 HU3
  go_wp2_with fail
  refine (holdsT_known HT4.out (testC_ob 5 r l) HB4.out s6 hzb h6).mono ?_
  rintro e w5 ⟨rfl, b5⟩
  have HT5 := Lib.hid (HT4.out.up b5)
  have HB5 := Lib.hid (HB4.out.up b5)
  have HU5 := Lib.hid (HU4.out.tr b5)
  clear b5 HT4 HB4 HU4
  go_wp2_with fail
  refine (valOf_known HB5.out (by omega) rfl ho1).mono ?_
  rintro e w6 ⟨rfl, b6⟩
  generalize valS B l = y6 at *
  have HB6 := Lib.hid (HB5.out.up b6)
  have HU6 := Lib.hid (HU5.out.tr b6)
  clear b6 HB5 HU5
  go_wp2_with fail
  refine (valOf_known HB6.out (by omega) rfl ho2).mono ?_
  rintro e w7 ⟨rfl, b7⟩
  generalize valS B r = y7 at *
  have HB7 := Lib.hid (HB6.out.up b7)
  have HU7 := Lib.hid (HU6.out.tr b7)
  clear b7 HB6 HU6
  clear h3 h4 h5 h6 ho1 ho2
  cases one
  · obtain ⟨rfl, rfl, rfl, rfl⟩ := HLN.out (.inr (.inl rfl))
    clear HLN HLT
    go_wp2
    go_ret
    exact ⟨rfl, HU7.out⟩
  · cases two
    · obtain ⟨rfl, rfl, rfl, rfl⟩ := HLN.out (.inr (.inr rfl))
      clear HLN HLT
      go_wp2
      go_ret
      exact ⟨rfl, HU7.out⟩
    · go_wp2_with fail
      refine (isB_known HB7.out hzb hbd).mono ?_
      rintro e w8 ⟨rfl, b8⟩
      have HU8 := Lib.hid (HU7.out.tr b8)
      clear b8 hbd
      cases bnd
      · obtain ⟨rfl, rfl, rfl, rfl⟩ := HLN.out (.inl rfl)
        clear HLN HLT
        go_wp2
        go_ret
        exact ⟨rfl, HU8.out⟩
      · obtain ⟨l1, l2, l3⟩ := HLT.out (by simp) (by simp) (by simp)
        clear HLN HLT
        have hall : (t3 = true ∧ t4 = false ∧ t5 = false ∧ t6 = false) ∨ (t3 = true ∧ t4 = false ∧ t5 = false ∧ t6 = true) ∨ (t3 = false ∧ t4 = true ∧ t5 = false ∧ t6 = false) ∨ (t3 = false ∧ t4 = true ∧ t5 = true ∧ t6 = false) ∨ (t3 = false ∧ t4 = true ∧ t5 = false ∧ t6 = true) := by
          revert l1 l2 l3
          cases t3 <;> cases t4 <;> cases t5 <;> cases t6 <;> simp
        clear l1 l2 l3
        rcases hall with ⟨rfl, rfl, rfl, rfl⟩ | ⟨rfl, rfl, rfl, rfl⟩ | ⟨rfl, rfl, rfl, rfl⟩ | ⟨rfl, rfl, rfl, rfl⟩ | ⟨rfl, rfl, rfl, rfl⟩
        all_goals
          go_wp2
          go_ret
          exact ⟨rfl, HU8.out⟩
end Go.Proofs.YtpjklnngigkkiaaDoor
