/- ParseFact and ParsePattern, the program's and the reference's: one plain function of the text; wherever the lengths can be counted. -/
import Derived.Test.YtjaifoeagocapaaDoorPar
import Derived.Test.YtjaifoeagocapaaDoorInst
namespace Go.Proofs.YtjaifoeagocapaaDoor
open Go.RowKit
attribute [local go_sem ↓] Go.wp_at_zero Go.wp_at_succ
set_option linter.unusedVariables false
theorem fsz_fmt {f : FactV} (h : (fmtF f).size ≤ 1048576) : fsz f ≤ 1048576 := by
  rw [fmtF_size, joinB_size, tlen_tsum] at h
  have : tCo.size = 1 := rfl
  unfold fsz tsz
  rw [this] at h
  omega
theorem callV_fmt {s r : ByteArray} {a : List ByteArray} (h : callV s = some (r, a)) : fmtF ⟨r, a⟩ = s := by
  unfold callV at h
  split at h
  · rename_i hc
    simp only [Bool.and_eq_true] at hc
    obtain ⟨h1, h2⟩ := hc
    simp only [Option.some.injEq, Prod.mk.injEq] at h
    obtain ⟨rfl, rfl⟩ := h
    obtain ⟨t, ht⟩ := suffix_form h2
    have hj := inV_join (b := ⟨(Lib.cut s.data.toList [40]).2.1.toArray⟩) (r := t) (by simpa using ht)
    apply data_inj
    unfold fmtF
    simp only [ByteArray.data_append, Array.toList_append]
    rw [hj]
    simp only [tLp, tRp]
    have hcut : s.data.toList = (Lib.cut s.data.toList [40]).1 ++ 40 :: (Lib.cut s.data.toList [40]).2.1 := by
      rcases Lib.index_spec s.data.toList [40] with ⟨h, -⟩ | ⟨i, h, hi, ho, -⟩
      · unfold Lib.cut at h1; rw [h] at h1; simp at h1
      · obtain ⟨q, hq⟩ := List.isPrefixOf_iff_prefix.1 ho
        unfold Lib.cut
        rw [if_pos (by omega), h]
        simp only [Int.toNat_natCast, List.length_singleton]
        have ed : s.data.toList.drop (i + 1) = q := by rw [← List.drop_drop, ← hq]; rfl
        rw [ed]
        conv => lhs; rw [← List.take_append_drop i s.data.toList, ← hq]
        rfl
    rw [ht] at hcut
    conv => rhs; rw [hcut]
    simp
  · cases h
theorem partV_fmt' {s r : ByteArray} {a : List ByteArray} (h : partV s = some (r, a)) : fmtF ⟨r, a⟩ = s := by
  rcases call_part s with ⟨r', a', h1, h2, h3⟩ | ⟨h1, -⟩
  · rw [h] at h2
    simp only [Option.some.injEq, Prod.mk.injEq] at h2
    obtain ⟨rfl, rfl⟩ := h2
    exact h3
  · rw [h] at h1; cases h1
theorem oF_parse {ok : FactV → Bool} (s : ByteArray) (hs : s.size ≤ 1048576) : fsz (oF (parseB ok s)) ≤ 4194304 := by
  unfold parseB
  cases hp : partV s with
  | none => simp [oF, fV0, fsz, tsz, tsum, ByteArray.size]
  | some p =>
    obtain ⟨r, a⟩ := p
    have h1 := fsz_fmt (f := ⟨r, a⟩) (by rw [partV_fmt' hp]; exact hs)
    by_cases ho : ok ⟨r, a⟩ = true
    · simp only [ho, if_true, oF, Option.getD_some]; omega
    · simp only [ho]; simp [oF, fV0, fsz, tsz, tsum, ByteArray.size]
theorem parse_c0 {ok : FactV → Bool} (hok : ∀ f, ok f = true → ∀ p ∈ f.args, (40 : UInt8) ∉ p.data.toList) {s : ByteArray} (h : callV s = none) : parseB ok s = none := by rw [parse_call ok hok, h]
theorem parse_c1 {ok : FactV → Bool} (hok : ∀ f, ok f = true → ∀ p ∈ f.args, (40 : UInt8) ∉ p.data.toList) {s r : ByteArray} {a : List ByteArray} (h : callV s = some (r, a)) (h1 : ok ⟨r, a⟩ = false) : parseB ok s = none := by rw [parse_call ok hok, h]; simp [h1]
theorem parse_c2 {ok : FactV → Bool} (hok : ∀ f, ok f = true → ∀ p ∈ f.args, (40 : UInt8) ∉ p.data.toList) {s r : ByteArray} {a : List ByteArray} (h : callV s = some (r, a)) (h1 : ok ⟨r, a⟩ = true) : parseB ok s = some ⟨r, a⟩ := by
  rw [parse_call ok hok, h]; simp [h1, callV_fmt h]
theorem parse_p0 {ok : FactV → Bool} {s : ByteArray} (h : partV s = none) : parseB ok s = none := by unfold parseB; rw [h]
theorem parse_p1 {ok : FactV → Bool} {s r : ByteArray} {a : List ByteArray} (h : partV s = some (r, a)) (h1 : ok ⟨r, a⟩ = false) : parseB ok s = none := by unfold parseB; rw [h]; simp [h1]
theorem parse_p2 {ok : FactV → Bool} {s r : ByteArray} {a : List ByteArray} (h : partV s = some (r, a)) (h1 : ok ⟨r, a⟩ = true) : parseB ok s = some ⟨r, a⟩ := by unfold parseB; rw [h]; simp [h1]
set_option maxHeartbeats 2000000 in
theorem cParseF {s : ByteArray} {w : World} (hM : MxL w) (hs : s.size ≤ 1048576) :
    Calls Tryd.prog 12 #[.string s] w fun e w' => ∃ v', e = .returned (.tuple #[v', .bool (parseB isFactB s).isSome]) ∧ Ob (FO 9) w' w.heap.size w'.heap.size v' (oF (parseB isFactB s)) ∧ Up w w' := by
  have hb0 : Up w (w.alloc (.cells #[.string ⟨#[]⟩, .slice none 0 0] 35)) := Up.al1 _ _
  have hws : (w.alloc (.cells #[.string ⟨#[]⟩, .slice none 0 0] 35)).heap.size = w.heap.size + 1 := by simp
  have KR := Lib.hid (Blk.new w 35 #[.string ⟨#[]⟩, .slice none 0 0])
  have HB := Lib.hid hb0
  have HM := Lib.hid (hM.up hb0)
  clear hb0 hM
  go_enter Tryd.func12, Tryd.ntmps12
  go_wp2_with fail
  generalize (w.alloc (.cells #[.string ⟨#[]⟩, .slice none 0 0] 35)) = W at *
  have HWS := Lib.hid hws
  clear hws
  refine (cCalled HM.out hs).mono ?_
  rintro e w1 ⟨v1, rfl, ho, b1⟩
  cases hc : callV s with
  | none =>
    rw [hc] at ho
    obtain ⟨a1, q1, e1⟩ := ho.tx.1.form
    have e1 : v1 = .slice a1 0 q1 := e1
    subst e1
    clear ho
    rw [show oR none = (⟨#[]⟩ : ByteArray) from rfl, show (none : Option (ByteArray × List ByteArray)).isSome = false from rfl]
    have bx : Up W (w1.alloc (.cells #[.string ⟨#[]⟩, .slice a1 0 q1] 35)) := b1.al _
    clear b1
    have HE := Lib.hid (parse_c0 (fun _ h => fact_no40 h) hc)
    have KRx := Lib.hid (KR.out.up bx)
    have HBx := Lib.hid (HB.out.tr bx)
    have r0 := KRx.out.cell0; have r1 := KRx.out.cell1; have fr0 := KRx.out.frozen 0; have fr1 := KRx.out.frozen 1
    clear bx
    go_wp2
    generalize (w1.alloc (.cells #[.string ⟨#[]⟩, .slice a1 0 q1] 35)) = wx at *
    clear r0 r1 fr0 fr1
    have hK : Blk ((wx.setCell ⟨w.heap.size, 0, none⟩ (.string ⟨#[]⟩)).setCell ⟨w.heap.size, 1, none⟩ (.slice none 0 0)) w.heap.size 35 #[(.string ⟨#[]⟩), (.slice none 0 0)] := by
      have := (KRx.out.set_ 0 (.string ⟨#[]⟩)).set_ 1 (.slice none 0 0)
      simpa using this
    have hB : Up w ((wx.setCell ⟨w.heap.size, 0, none⟩ (.string ⟨#[]⟩)).setCell ⟨w.heap.size, 1, none⟩ (.slice none 0 0)) := ((HBx.out.setCell (p := ⟨w.heap.size, 0, none⟩) (Nat.le_refl _) _).setCell (p := ⟨w.heap.size, 1, none⟩) (Nat.le_refl _) _)
    generalize ((wx.setCell ⟨w.heap.size, 0, none⟩ (.string ⟨#[]⟩)).setCell ⟨w.heap.size, 1, none⟩ (.slice none 0 0)) = W9 at *
    have e0 := hK.cell0; have e1 := hK.cell1
    refine bodyPost_ret (v := .tuple #[.agg #[(.string ⟨#[]⟩), (.slice none 0 0)], .bool false]) (by simp [results, Tryd.results12, go_sem, e0, e1]) rfl ?_
    exact ⟨_, ret_pb (by rw [HE.out]; rfl), FO.zero_ HE.out, hB⟩
  | some p =>
    obtain ⟨r, args⟩ := p
    rw [hc] at ho
    rw [show oR (some (r, args)) = r from rfl, show (some (r, args)).isSome = true from rfl]
    have HC := Lib.hid hc
    have hfm := callV_fmt hc
    have hzf : fsz ⟨r, args⟩ ≤ 1048576 := fsz_fmt (by rw [hfm]; exact hs)
    have HFM := Lib.hid hfm
    have ho : Ob (TO 9) w1 W.heap.size w1.heap.size v1 args := ho
    obtain ⟨a1, q1, rfl⟩ := ho.tx.1.form
    have hb2 : Up w1 (w1.alloc (.cells #[.string r, .slice a1 args.length q1] 35)) := Up.al1 _ _
    have hk2 := Blk.new w1 35 #[.string r, .slice a1 args.length q1]
    have HO := Lib.hid (ho.up hb2)
    have HF : Hid (Ob AF (w1.alloc (.cells #[.string r, .slice a1 args.length q1] 35)) W.heap.size w1.heap.size (.agg #[.string r, .slice a1 args.length q1]) ⟨r, args⟩) := ⟨⟨[_, _], rfl, _, rfl, HO.out.1.tx⟩, HO.out.2⟩
    have bx := b1.tr hb2
    have hnt : w1.heap.size < (w1.alloc (.cells #[.string r, .slice a1 args.length q1] 35)).heap.size := by simp
    have hs1 := b1.size
    clear hc hfm ho b1 hb2
    have d0 := hk2.cell0; have d1 := hk2.cell1
    go_wp2_with fail
    generalize (w1.alloc (.cells #[.string r, .slice a1 args.length q1] 35)) = W2 at *
    refine (cIsFact HF.out hzf).mono ?_
    rintro e w3 ⟨rfl, b3⟩
    cases h1 : isFactB ⟨r, args⟩
    · clear d0 d1
      have HE := Lib.hid (parse_c1 (fun _ h => fact_no40 h) HC.out h1)
      have bx := bx.tr b3
      have KRx := Lib.hid (KR.out.up bx)
      have HBx := Lib.hid (HB.out.tr bx)
      have r0 := KRx.out.cell0; have r1 := KRx.out.cell1; have fr0 := KRx.out.frozen 0; have fr1 := KRx.out.frozen 1
      clear bx b3
      go_wp2
      clear r0 r1 fr0 fr1
      have hK : Blk ((w3.setCell ⟨w.heap.size, 0, none⟩ (.string ⟨#[]⟩)).setCell ⟨w.heap.size, 1, none⟩ (.slice none 0 0)) w.heap.size 35 #[(.string ⟨#[]⟩), (.slice none 0 0)] := by
        have := (KRx.out.set_ 0 (.string ⟨#[]⟩)).set_ 1 (.slice none 0 0)
        simpa using this
      have hB : Up w ((w3.setCell ⟨w.heap.size, 0, none⟩ (.string ⟨#[]⟩)).setCell ⟨w.heap.size, 1, none⟩ (.slice none 0 0)) := ((HBx.out.setCell (p := ⟨w.heap.size, 0, none⟩) (Nat.le_refl _) _).setCell (p := ⟨w.heap.size, 1, none⟩) (Nat.le_refl _) _)
      generalize ((w3.setCell ⟨w.heap.size, 0, none⟩ (.string ⟨#[]⟩)).setCell ⟨w.heap.size, 1, none⟩ (.slice none 0 0)) = W9 at *
      have e0 := hK.cell0; have e1 := hK.cell1
      refine bodyPost_ret (v := .tuple #[.agg #[(.string ⟨#[]⟩), (.slice none 0 0)], .bool false]) (by simp [results, Tryd.results12, go_sem, e0, e1]) rfl ?_
      exact ⟨_, ret_pb (by rw [HE.out]; rfl), FO.zero_ HE.out, hB⟩
    · have HE := Lib.hid (parse_c2 (fun _ h => fact_no40 h) HC.out h1)
      have hk3 := hk2.up b3
      have d0 := hk3.cell0; have d1 := hk3.cell1
      have HF3 := Lib.hid (HF.out.up b3)
      have hf1 : formF ⟨r, args⟩ = s := by unfold formF; rw [h1, if_pos rfl]; exact HFM.out
      go_wp2_with fail
      refine (cFormF HF3.out hzf).mono ?_
      rintro e w4 ⟨rfl, b4⟩
      rw [hf1]
      have hq : (s.toList == s.toList) = true := by simp
      have bx := bx.tr (b3.tr b4)
      have hk4 := hk3.up b4
      have HO4 := Lib.hid ((HO.out.up b3).up b4)
      clear d0 d1
      have d0 := hk4.cell0; have d1 := hk4.cell1
      have hs4 : w1.heap.size ≤ w4.heap.size := by have := b3.size; have := b4.size; omega
      clear b3 b4 hk3 hf1
      have KRx := Lib.hid (KR.out.up bx)
      have HBx := Lib.hid (HB.out.tr bx)
      have r0 := KRx.out.cell0; have r1 := KRx.out.cell1; have fr0 := KRx.out.frozen 0; have fr1 := KRx.out.frozen 1
      have d0s : (w4.setCell ⟨w.heap.size, 0, none⟩ (.string r)).cell? ⟨w.heap.size, 1, none⟩ = some (.slice none 0 0) := by have := (KRx.out.set_ 0 (.string r)).cell 1; simpa using this
      clear bx
      go_wp2
      clear d0 d1 d0s
      clear r0 r1 fr0 fr1
      have hK : Blk ((w4.setCell ⟨w.heap.size, 0, none⟩ (.string r)).setCell ⟨w.heap.size, 1, none⟩ (.slice a1 args.length q1)) w.heap.size 35 #[(.string r), (.slice a1 args.length q1)] := by
        have := (KRx.out.set_ 0 (.string r)).set_ 1 (.slice a1 args.length q1)
        simpa using this
      have hB : Up w ((w4.setCell ⟨w.heap.size, 0, none⟩ (.string r)).setCell ⟨w.heap.size, 1, none⟩ (.slice a1 args.length q1)) := ((HBx.out.setCell (p := ⟨w.heap.size, 0, none⟩) (Nat.le_refl _) _).setCell (p := ⟨w.heap.size, 1, none⟩) (Nat.le_refl _) _)
      have hz9 : ((w4.setCell ⟨w.heap.size, 0, none⟩ (.string r)).setCell ⟨w.heap.size, 1, none⟩ (.slice a1 args.length q1)).heap.size = w4.heap.size := by simp [World.setCell]
      have hV := (HO4.out.1.keep (((Stays.refl w4 W.heap.size w1.heap.size).setCell (p := ⟨w.heap.size, 0, none⟩) (.inl (by show w.heap.size < W.heap.size; have := HWS.out; omega)) (.string r)).setCell (p := ⟨w.heap.size, 1, none⟩) (.inl (by show w.heap.size < W.heap.size; have := HWS.out; omega)) (.slice a1 args.length q1))).mono (show w.heap.size ≤ W.heap.size by have := HWS.out; omega) (show w1.heap.size ≤ ((w4.setCell ⟨w.heap.size, 0, none⟩ (.string r)).setCell ⟨w.heap.size, 1, none⟩ (.slice a1 args.length q1)).heap.size by omega)
      generalize ((w4.setCell ⟨w.heap.size, 0, none⟩ (.string r)).setCell ⟨w.heap.size, 1, none⟩ (.slice a1 args.length q1)) = W9 at *
      have e0 := hK.cell0; have e1 := hK.cell1
      refine bodyPost_ret (v := .tuple #[.agg #[(.string r), (.slice a1 args.length q1)], .bool true]) (by simp [results, Tryd.results12, go_sem, e0, e1]) rfl ?_
      exact ⟨_, ret_pb (by rw [HE.out]; rfl), ⟨by rw [HE.out]; exact ⟨_, rfl, hV⟩, Nat.le_refl _⟩, hB⟩
set_option maxHeartbeats 2000000 in
theorem cParseP {s : ByteArray} {w : World} (hM : MxL w) (hs : s.size ≤ 1048576) :
    Calls Tryd.prog 24 #[.string s] w fun e w' => ∃ v', e = .returned (.tuple #[v', .bool (parseB isPatB s).isSome]) ∧ Ob (FO 9) w' w.heap.size w'.heap.size v' (oF (parseB isPatB s)) ∧ Up w w' := by
  have hb0 : Up w (w.alloc (.cells #[.string ⟨#[]⟩, .slice none 0 0] 26)) := Up.al1 _ _
  have hws : (w.alloc (.cells #[.string ⟨#[]⟩, .slice none 0 0] 26)).heap.size = w.heap.size + 1 := by simp
  have KR := Lib.hid (Blk.new w 26 #[.string ⟨#[]⟩, .slice none 0 0])
  have HB := Lib.hid hb0
  have HM := Lib.hid (hM.up hb0)
  clear hb0 hM
  go_enter Tryd.func24, Tryd.ntmps24
  go_wp2_with fail
  generalize (w.alloc (.cells #[.string ⟨#[]⟩, .slice none 0 0] 26)) = W at *
  have HWS := Lib.hid hws
  clear hws
  refine (cCalled HM.out hs).mono ?_
  rintro e w1 ⟨v1, rfl, ho, b1⟩
  cases hc : callV s with
  | none =>
    rw [hc] at ho
    obtain ⟨a1, q1, e1⟩ := ho.tx.1.form
    have e1 : v1 = .slice a1 0 q1 := e1
    subst e1
    clear ho
    rw [show oR none = (⟨#[]⟩ : ByteArray) from rfl, show (none : Option (ByteArray × List ByteArray)).isSome = false from rfl]
    have bx : Up W (w1.alloc (.cells #[.string ⟨#[]⟩, .slice a1 0 q1] 26)) := b1.al _
    clear b1
    have HE := Lib.hid (parse_c0 (fun _ h => pat_no40 h) hc)
    have KRx := Lib.hid (KR.out.up bx)
    have HBx := Lib.hid (HB.out.tr bx)
    have r0 := KRx.out.cell0; have r1 := KRx.out.cell1; have fr0 := KRx.out.frozen 0; have fr1 := KRx.out.frozen 1
    clear bx
    go_wp2
    generalize (w1.alloc (.cells #[.string ⟨#[]⟩, .slice a1 0 q1] 26)) = wx at *
    clear r0 r1 fr0 fr1
    have hK : Blk ((wx.setCell ⟨w.heap.size, 0, none⟩ (.string ⟨#[]⟩)).setCell ⟨w.heap.size, 1, none⟩ (.slice none 0 0)) w.heap.size 26 #[(.string ⟨#[]⟩), (.slice none 0 0)] := by
      have := (KRx.out.set_ 0 (.string ⟨#[]⟩)).set_ 1 (.slice none 0 0)
      simpa using this
    have hB : Up w ((wx.setCell ⟨w.heap.size, 0, none⟩ (.string ⟨#[]⟩)).setCell ⟨w.heap.size, 1, none⟩ (.slice none 0 0)) := ((HBx.out.setCell (p := ⟨w.heap.size, 0, none⟩) (Nat.le_refl _) _).setCell (p := ⟨w.heap.size, 1, none⟩) (Nat.le_refl _) _)
    generalize ((wx.setCell ⟨w.heap.size, 0, none⟩ (.string ⟨#[]⟩)).setCell ⟨w.heap.size, 1, none⟩ (.slice none 0 0)) = W9 at *
    have e0 := hK.cell0; have e1 := hK.cell1
    refine bodyPost_ret (v := .tuple #[.agg #[(.string ⟨#[]⟩), (.slice none 0 0)], .bool false]) (by simp [results, Tryd.results24, go_sem, e0, e1]) rfl ?_
    exact ⟨_, ret_pb (by rw [HE.out]; rfl), FO.zero_ HE.out, hB⟩
  | some p =>
    obtain ⟨r, args⟩ := p
    rw [hc] at ho
    rw [show oR (some (r, args)) = r from rfl, show (some (r, args)).isSome = true from rfl]
    have HC := Lib.hid hc
    have hfm := callV_fmt hc
    have hzf : fsz ⟨r, args⟩ ≤ 1048576 := fsz_fmt (by rw [hfm]; exact hs)
    have HFM := Lib.hid hfm
    have ho : Ob (TO 9) w1 W.heap.size w1.heap.size v1 args := ho
    obtain ⟨a1, q1, rfl⟩ := ho.tx.1.form
    have hb2 : Up w1 (w1.alloc (.cells #[.string r, .slice a1 args.length q1] 26)) := Up.al1 _ _
    have hk2 := Blk.new w1 26 #[.string r, .slice a1 args.length q1]
    have HO := Lib.hid (ho.up hb2)
    have HF : Hid (Ob AF (w1.alloc (.cells #[.string r, .slice a1 args.length q1] 26)) W.heap.size w1.heap.size (.agg #[.string r, .slice a1 args.length q1]) ⟨r, args⟩) := ⟨⟨[_, _], rfl, _, rfl, HO.out.1.tx⟩, HO.out.2⟩
    have bx := b1.tr hb2
    have hnt : w1.heap.size < (w1.alloc (.cells #[.string r, .slice a1 args.length q1] 26)).heap.size := by simp
    have hs1 := b1.size
    clear hc hfm ho b1 hb2
    have d0 := hk2.cell0; have d1 := hk2.cell1
    go_wp2_with fail
    generalize (w1.alloc (.cells #[.string r, .slice a1 args.length q1] 26)) = W2 at *
    refine (cIsPattern HF.out hzf).mono ?_
    rintro e w3 ⟨rfl, b3⟩
    cases h1 : isPatB ⟨r, args⟩
    · clear d0 d1
      have HE := Lib.hid (parse_c1 (fun _ h => pat_no40 h) HC.out h1)
      have bx := bx.tr b3
      have KRx := Lib.hid (KR.out.up bx)
      have HBx := Lib.hid (HB.out.tr bx)
      have r0 := KRx.out.cell0; have r1 := KRx.out.cell1; have fr0 := KRx.out.frozen 0; have fr1 := KRx.out.frozen 1
      clear bx b3
      go_wp2
      clear r0 r1 fr0 fr1
      have hK : Blk ((w3.setCell ⟨w.heap.size, 0, none⟩ (.string ⟨#[]⟩)).setCell ⟨w.heap.size, 1, none⟩ (.slice none 0 0)) w.heap.size 26 #[(.string ⟨#[]⟩), (.slice none 0 0)] := by
        have := (KRx.out.set_ 0 (.string ⟨#[]⟩)).set_ 1 (.slice none 0 0)
        simpa using this
      have hB : Up w ((w3.setCell ⟨w.heap.size, 0, none⟩ (.string ⟨#[]⟩)).setCell ⟨w.heap.size, 1, none⟩ (.slice none 0 0)) := ((HBx.out.setCell (p := ⟨w.heap.size, 0, none⟩) (Nat.le_refl _) _).setCell (p := ⟨w.heap.size, 1, none⟩) (Nat.le_refl _) _)
      generalize ((w3.setCell ⟨w.heap.size, 0, none⟩ (.string ⟨#[]⟩)).setCell ⟨w.heap.size, 1, none⟩ (.slice none 0 0)) = W9 at *
      have e0 := hK.cell0; have e1 := hK.cell1
      refine bodyPost_ret (v := .tuple #[.agg #[(.string ⟨#[]⟩), (.slice none 0 0)], .bool false]) (by simp [results, Tryd.results24, go_sem, e0, e1]) rfl ?_
      exact ⟨_, ret_pb (by rw [HE.out]; rfl), FO.zero_ HE.out, hB⟩
    · have HE := Lib.hid (parse_c2 (fun _ h => pat_no40 h) HC.out h1)
      have hk3 := hk2.up b3
      have d0 := hk3.cell0; have d1 := hk3.cell1
      have HF3 := Lib.hid (HF.out.up b3)
      have hf1 : formP ⟨r, args⟩ = s := by unfold formP; rw [h1, if_pos rfl]; exact HFM.out
      go_wp2_with fail
      refine (cFormP HF3.out hzf).mono ?_
      rintro e w4 ⟨rfl, b4⟩
      rw [hf1]
      have hq : (s.toList == s.toList) = true := by simp
      have bx := bx.tr (b3.tr b4)
      have hk4 := hk3.up b4
      have HO4 := Lib.hid ((HO.out.up b3).up b4)
      clear d0 d1
      have d0 := hk4.cell0; have d1 := hk4.cell1
      have hs4 : w1.heap.size ≤ w4.heap.size := by have := b3.size; have := b4.size; omega
      clear b3 b4 hk3 hf1
      have KRx := Lib.hid (KR.out.up bx)
      have HBx := Lib.hid (HB.out.tr bx)
      have r0 := KRx.out.cell0; have r1 := KRx.out.cell1; have fr0 := KRx.out.frozen 0; have fr1 := KRx.out.frozen 1
      have d0s : (w4.setCell ⟨w.heap.size, 0, none⟩ (.string r)).cell? ⟨w.heap.size, 1, none⟩ = some (.slice none 0 0) := by have := (KRx.out.set_ 0 (.string r)).cell 1; simpa using this
      clear bx
      go_wp2
      clear d0 d1 d0s
      clear r0 r1 fr0 fr1
      have hK : Blk ((w4.setCell ⟨w.heap.size, 0, none⟩ (.string r)).setCell ⟨w.heap.size, 1, none⟩ (.slice a1 args.length q1)) w.heap.size 26 #[(.string r), (.slice a1 args.length q1)] := by
        have := (KRx.out.set_ 0 (.string r)).set_ 1 (.slice a1 args.length q1)
        simpa using this
      have hB : Up w ((w4.setCell ⟨w.heap.size, 0, none⟩ (.string r)).setCell ⟨w.heap.size, 1, none⟩ (.slice a1 args.length q1)) := ((HBx.out.setCell (p := ⟨w.heap.size, 0, none⟩) (Nat.le_refl _) _).setCell (p := ⟨w.heap.size, 1, none⟩) (Nat.le_refl _) _)
      have hz9 : ((w4.setCell ⟨w.heap.size, 0, none⟩ (.string r)).setCell ⟨w.heap.size, 1, none⟩ (.slice a1 args.length q1)).heap.size = w4.heap.size := by simp [World.setCell]
      have hV := (HO4.out.1.keep (((Stays.refl w4 W.heap.size w1.heap.size).setCell (p := ⟨w.heap.size, 0, none⟩) (.inl (by show w.heap.size < W.heap.size; have := HWS.out; omega)) (.string r)).setCell (p := ⟨w.heap.size, 1, none⟩) (.inl (by show w.heap.size < W.heap.size; have := HWS.out; omega)) (.slice a1 args.length q1))).mono (show w.heap.size ≤ W.heap.size by have := HWS.out; omega) (show w1.heap.size ≤ ((w4.setCell ⟨w.heap.size, 0, none⟩ (.string r)).setCell ⟨w.heap.size, 1, none⟩ (.slice a1 args.length q1)).heap.size by omega)
      generalize ((w4.setCell ⟨w.heap.size, 0, none⟩ (.string r)).setCell ⟨w.heap.size, 1, none⟩ (.slice a1 args.length q1)) = W9 at *
      have e0 := hK.cell0; have e1 := hK.cell1
      refine bodyPost_ret (v := .tuple #[.agg #[(.string r), (.slice a1 args.length q1)], .bool true]) (by simp [results, Tryd.results24, go_sem, e0, e1]) rfl ?_
      exact ⟨_, ret_pb (by rw [HE.out]; rfl), ⟨by rw [HE.out]; exact ⟨_, rfl, hV⟩, Nat.le_refl _⟩, hB⟩
end Go.Proofs.YtjaifoeagocapaaDoor
