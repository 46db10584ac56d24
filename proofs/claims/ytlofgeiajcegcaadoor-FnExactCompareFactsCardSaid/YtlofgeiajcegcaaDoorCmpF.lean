/- CompareFacts, the program's and the reference's, as one plain function of the two facts. -/
import Derived.Test.YtlofgeiajcegcaaDoorCmp
import Derived.Test.YtlofgeiajcegcaaDoorFact
namespace Go.Proofs.YtlofgeiajcegcaaDoor
open Go.RowKit
attribute [local go_sem ↓] Go.wp_at_zero Go.wp_at_succ
set_option linter.unusedVariables false
theorem cmpB_self : ∀ a : List UInt8, Lib.compareBytes a a = 0
  | [] => rfl
  | a :: x => by simp [Lib.compareBytes, cmpB_self x]
theorem cmpS_same {a b : ByteArray} (h : (a.toList == b.toList) = true) : cmpS a b = 0 := by
  have : a.toList = b.toList := by simpa using h
  rw [ByteArray.toList_eq, ByteArray.toList_eq] at this
  unfold cmpS; rw [this]; exact cmpB_self _
theorem cmpS_other {a b : ByteArray} (h : (a.toList == b.toList) = false) : cmpS a b ≠ 0 := by
  rw [cmpS_eq, h]; split <;> simp
def cmpL : List ByteArray → List ByteArray → Int
  | [], [] => 0
  | [], _ :: _ => -1
  | _ :: _, [] => 1
  | a :: r, b :: s => if cmpA a b = 0 then cmpL r s else cmpA a b
def cmpF (f g : FactV) : Int := if cmpS f.rel g.rel = 0 then cmpL f.args g.args else cmpS f.rel g.rel
theorem cmpL_drop (k : Nat) (x y : List ByteArray) (h : k < x.length) (h' : k < y.length) : cmpL (x.drop k) (y.drop k) = if cmpA x[k] y[k] = 0 then cmpL (x.drop (k + 1)) (y.drop (k + 1)) else cmpA x[k] y[k] := by
  rw [List.drop_eq_getElem_cons h, List.drop_eq_getElem_cons h']; rfl
theorem cmpL_end (k : Nat) (x y : List ByteArray) (h : k ≤ x.length) (h' : k ≤ y.length) (he : k = x.length ∨ k = y.length) : cmpL (x.drop k) (y.drop k) = cmpI x.length y.length := by
  rcases he with rfl | rfl
  · rw [List.drop_length]
    by_cases e : x.length = y.length
    · rw [e, List.drop_length]; simp [cmpL, cmpI]
    · have hlt : x.length < y.length := by omega
      rw [List.drop_eq_getElem_cons hlt]; simp only [cmpL, cmpI]; rw [if_pos (by omega)]
  · rw [List.drop_length]
    by_cases e : y.length = x.length
    · rw [show x.drop y.length = [] from by rw [e, List.drop_length], e]; simp [cmpL, cmpI]
    · have hlt : y.length < x.length := by omega
      rw [List.drop_eq_getElem_cons hlt]; simp only [cmpL, cmpI]; rw [if_neg (by omega), if_pos (by omega)]
theorem cmp_arg {f : FactV} (hz : fsz f ≤ 1048576) (k : Nat) (h : k < f.args.length) : f.args[k].size ≤ 1048576 := by
  have := tsum_mem (List.getElem_mem h); unfold fsz tsz at hz; omega
set_option maxHeartbeats 2000000 in
theorem cCmpFactsS {v u : Value} {f g : FactV} {lo hi lo' hi' : Nat} {w : World} (h : Ob AF w lo hi v f) (h' : Ob AF w lo' hi' u g) (hz : fsz f ≤ 1048576) (hz' : fsz g ≤ 1048576) :
    Calls Tryd.prog 14 #[v, u] w fun e w' => e = .returned (.int .i64 (cmpF f g)) ∧ Up w w' := by
  obtain ⟨a, c, rfl⟩ := h.1.form
  obtain ⟨a', c', rfl⟩ := h'.1.form
  have H1 : Hid (Ob TX w lo hi (.slice a f.args.length c) f.args) := by
    obtain ⟨⟨_, e, av, rfl, ht⟩, h2⟩ := h
    simp only [Value.agg.injEq, Array.mk.injEq, List.cons.injEq] at e
    obtain ⟨-, rfl, -⟩ := e; exact ⟨ht, h2⟩
  have H2 : Hid (Ob TX w lo' hi' (.slice a' g.args.length c') g.args) := by
    obtain ⟨⟨_, e, av, rfl, ht⟩, h2⟩ := h'
    simp only [Value.agg.injEq, Array.mk.injEq, List.cons.injEq] at e
    obtain ⟨-, rfl, -⟩ := e; exact ⟨ht, h2⟩
  have hl1 := H1.out.1.len
  have hl2 := H2.out.1.len
  clear h h'
  have HB : Hid (Up w ((w.alloc (.cells #[.string f.rel, .slice a f.args.length c] 32)).alloc (.cells #[.string g.rel, .slice a' g.args.length c'] 32))) := (Up.al1 _ _).al _
  have K1 : Hid (Blk ((w.alloc (.cells #[.string f.rel, .slice a f.args.length c] 32)).alloc (.cells #[.string g.rel, .slice a' g.args.length c'] 32)) w.heap.size 32 #[.string f.rel, .slice a f.args.length c]) := (Blk.new w 32 #[.string f.rel, .slice a f.args.length c]).alloc (.cells #[.string g.rel, .slice a' g.args.length c'] 32)
  have K2 : Hid (Blk ((w.alloc (.cells #[.string f.rel, .slice a f.args.length c] 32)).alloc (.cells #[.string g.rel, .slice a' g.args.length c'] 32)) (w.heap.size + 1) 32 #[.string g.rel, .slice a' g.args.length c']) := by
    have := Blk.new (w.alloc (.cells #[.string f.rel, .slice a f.args.length c] 32)) 32 #[.string g.rel, .slice a' g.args.length c']
    show Blk _ _ _ _
    simpa using this
  have HZ1 := Lib.hid hz
  have HZ2 := Lib.hid hz'
  clear hz hz'
  have k10 := K1.out.cell0
  have k11 := K1.out.cell1
  have k20 := K2.out.cell0
  have k21 := K2.out.cell1
  cases hq : (f.rel.toList == g.rel.toList)
  · have HE : Hid (cmpF f g = cmpS f.rel g.rel) := by show _ = _; unfold cmpF; rw [if_neg (cmpS_other hq)]
    go_enter Tryd.func14, Tryd.ntmps14
    go_wp2_with fail
    refine (cmpSS_any _ _ _).mono ?_
    rintro e w3 ⟨rfl, rfl⟩
    go_wp2
    go_ret
    exact ⟨ret_int HE.out.symm, HB.out⟩
  · have HE : Hid (cmpF f g = cmpL f.args g.args) := by show _ = _; unfold cmpF; rw [if_pos (cmpS_same hq)]
    go_enter Tryd.func14, Tryd.ntmps14
    go_wp2
    clear k10 k11 k20 k21 hq
    generalize ((w.alloc (.cells #[.string f.rel, .slice a f.args.length c] 32)).alloc (.cells #[.string g.rel, .slice a' g.args.length c'] 32)) = W at *
    go_loopw [5] (fun i wr => ∃ (k : Nat), k ≤ f.args.length ∧ k ≤ g.args.length ∧ i = .int .i64 k ∧ Hid (cmpF f g = cmpL (f.args.drop k) (g.args.drop k)) ∧ Hid (Up W wr)) (fun i _ => f.args.length - (intOf i).toNat)
    case atStart => exact ⟨0, Nat.zero_le _, Nat.zero_le _, rfl, HE.out, Up.rf _⟩
    case round =>
      clear HE
      obtain ⟨k, hk, hk', rfl, HE, Hb⟩ := hrel
      have k11 := (K1.out.up Hb.out).cell1
      have k21 := (K2.out.up Hb.out).cell1
      by_cases hlt : k < f.args.length
      · by_cases hlt' : k < g.args.length
        · obtain ⟨b, off, rfl, -, -, c0⟩ := (H1.out.up (HB.out.tr Hb.out)).1.at hlt
          obtain ⟨b', off', rfl, -, -, d0⟩ := (H2.out.up (HB.out.tr Hb.out)).1.at hlt'
          have hs1 := cmp_arg HZ1.out k hlt
          have hs2 := cmp_arg HZ2.out k hlt'
          have HF := Lib.hid (cmpL_drop k _ _ hlt hlt')
          have i1 : (0 : Int) ≤ (k : Int) := by omega
          have i2 : (k : Int) < (f.args.length : Int) := by omega
          have i3 : (k : Int) < (g.args.length : Int) := by omega
          by_cases hq : cmpA f.args[k] g.args[k] = 0
          all_goals
            go_wp2_with fail
            go_region_held3 (fun w' => w'.cell? ⟨w.heap.size, 1, none⟩ = some (.slice (some ⟨b, off, none⟩) f.args.length c) ∧ w'.cell? ⟨w.heap.size + 1, 1, none⟩ = some (.slice (some ⟨b', off', none⟩) g.args.length c') ∧ w'.cell? ⟨b, off + k, none⟩ = some (.string f.args[k]) ∧ w'.cell? ⟨b', off' + k, none⟩ = some (.string g.args[k]) ∧ Up wr w')
              (first | exact ⟨k11, k21, c0, d0, (Up.rf _).dr⟩ | (have hh := ‹_ ∧ _ ∧ _ ∧ _ ∧ _›; have hb := ‹Up _ _›; exact ⟨keepCell hb hh.1, keepCell hb hh.2.1, keepCell hb hh.2.2.1, keepCell hb hh.2.2.2.1, hh.2.2.2.2.tr hb⟩))
              (first | (go_at_call 11; (with_reducible refine (cCmpAtomsS hs1 hs2).mono ?_); rintro e w1 ⟨rfl, b1⟩))
            have hb' : Up W w1 := Hb.out.dr.tr b1
            clear b1 k11 k21 c0 d0
            go_wp2
          · exact ⟨⟨k+1, by omega, by omega, by go_num, by have := HF.out; rw [if_pos hq] at this; exact HE.out.trans this, hb'⟩, by simp [intOf]; omega⟩
          · go_ret
            exact ⟨ret_int (by have := HF.out; rw [if_neg hq] at this; exact (HE.out.trans this).symm), HB.out.tr hb'⟩
        · have HC := Lib.hid (cmpL_end k _ _ hk hk' (.inr (by omega)))
          obtain rfl : k = g.args.length := by omega
          have HF : Hid (cmpF f g = 1) := by show _ = _; rw [HE.out, HC.out]; unfold cmpI; rw [if_neg (by omega), if_pos (by omega)]
          have i2 : ((g.args.length : Nat) : Int) < (f.args.length : Int) := by omega
          go_wp2
          go_ret
          exact ⟨ret_int HF.out.symm, HB.out.tr Hb.out⟩
      · obtain rfl : k = f.args.length := by omega
        have HC := Lib.hid (cmpL_end _ _ _ hk hk' (.inl rfl))
        by_cases hll : f.args.length < g.args.length
        · have HF : Hid (cmpF f g = -1) := by show _ = _; rw [HE.out, HC.out]; unfold cmpI; rw [if_pos (by omega)]
          have i2 : ((f.args.length : Nat) : Int) < (g.args.length : Int) := by omega
          go_wp2
          go_ret
          exact ⟨ret_int HF.out.symm, HB.out.tr Hb.out⟩
        · have hee : (g.args.length : Int) = f.args.length := by omega
          have HF : Hid (cmpF f g = 0) := by show _ = _; rw [HE.out, HC.out]; unfold cmpI; rw [if_neg (by omega), if_neg (by omega)]
          go_wp2
          go_ret
          exact ⟨ret_int HF.out.symm, HB.out.tr Hb.out⟩
set_option maxHeartbeats 2000000 in
theorem cCmpFacts {v u : Value} {f g : FactV} {lo hi lo' hi' : Nat} {w : World} (hT : Tabs w) (h : Ob AF w lo hi v f) (h' : Ob AF w lo' hi' u g) (hz : fsz f ≤ 1048576) (hz' : fsz g ≤ 1048576) :
    Calls Tryd.prog 16 #[v, u] w fun e w' => e = .returned (.int .i64 (cmpF f g)) ∧ Up w w' := by
  obtain ⟨a, c, rfl⟩ := h.1.form
  obtain ⟨a', c', rfl⟩ := h'.1.form
  have H1 : Hid (Ob TX w lo hi (.slice a f.args.length c) f.args) := by
    obtain ⟨⟨_, e, av, rfl, ht⟩, h2⟩ := h
    simp only [Value.agg.injEq, Array.mk.injEq, List.cons.injEq] at e
    obtain ⟨-, rfl, -⟩ := e; exact ⟨ht, h2⟩
  have H2 : Hid (Ob TX w lo' hi' (.slice a' g.args.length c') g.args) := by
    obtain ⟨⟨_, e, av, rfl, ht⟩, h2⟩ := h'
    simp only [Value.agg.injEq, Array.mk.injEq, List.cons.injEq] at e
    obtain ⟨-, rfl, -⟩ := e; exact ⟨ht, h2⟩
  have hl1 := H1.out.1.len
  have hl2 := H2.out.1.len
  clear h h'
  have HB : Hid (Up w ((w.alloc (.cells #[.string f.rel, .slice a f.args.length c] 32)).alloc (.cells #[.string g.rel, .slice a' g.args.length c'] 32))) := (Up.al1 _ _).al _
  have K1 : Hid (Blk ((w.alloc (.cells #[.string f.rel, .slice a f.args.length c] 32)).alloc (.cells #[.string g.rel, .slice a' g.args.length c'] 32)) w.heap.size 32 #[.string f.rel, .slice a f.args.length c]) := (Blk.new w 32 #[.string f.rel, .slice a f.args.length c]).alloc (.cells #[.string g.rel, .slice a' g.args.length c'] 32)
  have K2 : Hid (Blk ((w.alloc (.cells #[.string f.rel, .slice a f.args.length c] 32)).alloc (.cells #[.string g.rel, .slice a' g.args.length c'] 32)) (w.heap.size + 1) 32 #[.string g.rel, .slice a' g.args.length c']) := by
    have := Blk.new (w.alloc (.cells #[.string f.rel, .slice a f.args.length c] 32)) 32 #[.string g.rel, .slice a' g.args.length c']
    show Blk _ _ _ _
    simpa using this
  have HT := Lib.hid hT
  clear hT
  have HZ1 := Lib.hid hz
  have HZ2 := Lib.hid hz'
  clear hz hz'
  have k10 := K1.out.cell0
  have k11 := K1.out.cell1
  have k20 := K2.out.cell0
  have k21 := K2.out.cell1
  by_cases hq : cmpS f.rel g.rel = 0
  rotate_left
  · have HE : Hid (cmpF f g = cmpS f.rel g.rel) := by show _ = _; unfold cmpF; rw [if_neg hq]
    go_enter Tryd.func16, Tryd.ntmps16
    go_wp2_with fail
    refine (Tryd.strings_Compare _ _ _).mono ?_
    rintro e w3 ⟨rfl, rfl⟩
    rw [show Lib.compareBytes f.rel.data.toList g.rel.data.toList = cmpS f.rel g.rel from rfl]
    go_wp2
    go_ret
    exact ⟨ret_int HE.out.symm, HB.out⟩
  · have HE : Hid (cmpF f g = cmpL f.args g.args) := by show _ = _; unfold cmpF; rw [if_pos hq]
    go_enter Tryd.func16, Tryd.ntmps16
    go_wp2_with fail
    refine (Tryd.strings_Compare _ _ _).mono ?_
    rintro e w3 ⟨rfl, rfl⟩
    rw [show Lib.compareBytes f.rel.data.toList g.rel.data.toList = cmpS f.rel g.rel from rfl, hq]
    go_wp2
    clear k10 k11 k20 k21 hq
    generalize ((w.alloc (.cells #[.string f.rel, .slice a f.args.length c] 32)).alloc (.cells #[.string g.rel, .slice a' g.args.length c'] 32)) = W at *
    go_loopw [6] (fun i wr => ∃ (k : Nat), k ≤ f.args.length ∧ k ≤ g.args.length ∧ i = .int .i64 k ∧ Hid (cmpF f g = cmpL (f.args.drop k) (g.args.drop k)) ∧ Hid (Up W wr)) (fun i _ => f.args.length - (intOf i).toNat)
    case atStart => exact ⟨0, Nat.zero_le _, Nat.zero_le _, rfl, HE.out, Up.rf _⟩
    case round =>
      clear HE
      obtain ⟨k, hk, hk', rfl, HE, Hb⟩ := hrel
      have k11 := (K1.out.up Hb.out).cell1
      have k21 := (K2.out.up Hb.out).cell1
      by_cases hlt : k < f.args.length
      · by_cases hlt' : k < g.args.length
        · obtain ⟨b, off, rfl, -, -, c0⟩ := (H1.out.up (HB.out.tr Hb.out)).1.at hlt
          obtain ⟨b', off', rfl, -, -, d0⟩ := (H2.out.up (HB.out.tr Hb.out)).1.at hlt'
          have hs1 := cmp_arg HZ1.out k hlt
          have hs2 := cmp_arg HZ2.out k hlt'
          have HF := Lib.hid (cmpL_drop k _ _ hlt hlt')
          have i1 : (0 : Int) ≤ (k : Int) := by omega
          have HTr := Lib.hid (HT.out.up (HB.out.tr Hb.out))
          have i2 : (k : Int) < (f.args.length : Int) := by omega
          have i3 : (k : Int) < (g.args.length : Int) := by omega
          by_cases hq : cmpA f.args[k] g.args[k] = 0
          all_goals
            go_wp2_with fail
            go_region_held3 (fun w' => w'.cell? ⟨w.heap.size, 1, none⟩ = some (.slice (some ⟨b, off, none⟩) f.args.length c) ∧ w'.cell? ⟨w.heap.size + 1, 1, none⟩ = some (.slice (some ⟨b', off', none⟩) g.args.length c') ∧ w'.cell? ⟨b, off + k, none⟩ = some (.string f.args[k]) ∧ w'.cell? ⟨b', off' + k, none⟩ = some (.string g.args[k]) ∧ Up wr w')
              (first | exact ⟨k11, k21, c0, d0, (Up.rf _).dr⟩ | (have hh := ‹_ ∧ _ ∧ _ ∧ _ ∧ _›; have hb := ‹Up _ _›; exact ⟨keepCell hb hh.1, keepCell hb hh.2.1, keepCell hb hh.2.2.1, keepCell hb hh.2.2.2.1, hh.2.2.2.2.tr hb⟩))
              (first | (go_at_call 12; have hh := ‹_ ∧ _ ∧ _ ∧ _ ∧ _›; (with_reducible refine (cCmpAtoms (HTr.out.up hh.2.2.2.2) hs1 hs2).mono ?_); clear hh; rintro e w1 ⟨rfl, b1⟩))
            have hb' : Up W w1 := Hb.out.dr.tr b1
            clear b1 k11 k21 c0 d0
            go_wp2
          · exact ⟨⟨k+1, by omega, by omega, by go_num, by have := HF.out; rw [if_pos hq] at this; exact HE.out.trans this, hb'⟩, by simp [intOf]; omega⟩
          · go_ret
            exact ⟨ret_int (by have := HF.out; rw [if_neg hq] at this; exact (HE.out.trans this).symm), HB.out.tr hb'⟩
        · have HC := Lib.hid (cmpL_end k _ _ hk hk' (.inr (by omega)))
          obtain rfl : k = g.args.length := by omega
          have i2 : ((g.args.length : Nat) : Int) < (f.args.length : Int) := by omega
          go_wp2_with fail
          refine (cmpI_any _ _ _).mono ?_
          rintro e w3 ⟨rfl, rfl⟩
          go_wp2
          go_ret
          exact ⟨ret_int (HE.out.trans HC.out).symm, HB.out.tr Hb.out⟩
      · obtain rfl : k = f.args.length := by omega
        have HC := Lib.hid (cmpL_end _ _ _ hk hk' (.inl rfl))
        go_wp2_with fail
        refine (cmpI_any _ _ _).mono ?_
        rintro e w3 ⟨rfl, rfl⟩
        go_wp2
        go_ret
        exact ⟨ret_int (HE.out.trans HC.out).symm, HB.out.tr Hb.out⟩
end Go.Proofs.YtlofgeiajcegcaaDoor
