/- Conditions that are drawn: of each it is said that its words are drawn words and that it is short. -/
import Derived.Test.YtpkphijfncbbiaaDr4
import Derived.Test.YtpkphijfncbbiaaCond
namespace Go.Proofs.Ytpkphijfncbbiaa
open Go.RowKit
attribute [local go_sem ↓] Go.wp_at_zero Go.wp_at_succ
set_option linter.unusedVariables false
def okCW (x : CondV) : Prop := okFW x.pat ∧ okW x.left = true ∧ okW x.right = true
theorem okW_nil : okW ⟨#[]⟩ = true := by decide
theorem okFW_nil : okFW ⟨⟨#[]⟩, []⟩ := ⟨okW_nil, fun s h => (by cases h), Nat.zero_le _⟩
theorem okCW_csz {x : CondV} (h : okCW x) : csz x ≤ 77 := by
  have h1 := okFW_fsz h.1
  have h2 := okW_size h.2.1
  have h3 := okW_size h.2.2
  unfold csz; omega
section
variable {T : TypeId} {w a : World} {g p lo hi : Nat} {t : TypeId} {a0 a1 a2 a3 a4 : Value}
/- a struct of five cells stored into a block of the call's own -/
theorem Up.st5 (h : Up a w) (hg : a.heap.size ≤ p) (v0 v1 v2 v3 v4 : Value) : Up a (((((w.setCell ⟨p, 0, none⟩ v0).setCell ⟨p, 1, none⟩ v1).setCell ⟨p, 2, none⟩ v2).setCell ⟨p, 3, none⟩ v3).setCell ⟨p, 4, none⟩ v4) :=
  ((((h.setCell (p := ⟨p, 0, none⟩) hg _).setCell (p := ⟨p, 1, none⟩) hg _).setCell (p := ⟨p, 2, none⟩) hg _).setCell (p := ⟨p, 3, none⟩) hg _).setCell (p := ⟨p, 4, none⟩) hg _
theorem Dr.st5 (h : Dr T g a w) (hl : g < a.heap.size) (hg : a.heap.size ≤ p) (v0 v1 v2 v3 v4 : Value) : Dr T g a (((((w.setCell ⟨p, 0, none⟩ v0).setCell ⟨p, 1, none⟩ v1).setCell ⟨p, 2, none⟩ v2).setCell ⟨p, 3, none⟩ v3).setCell ⟨p, 4, none⟩ v4) :=
  h.own ((((((Below.refl a.heap.size w).setCell (p := ⟨p, 0, none⟩) hg _).setCell (p := ⟨p, 1, none⟩) hg _).setCell (p := ⟨p, 2, none⟩) hg _).setCell (p := ⟨p, 3, none⟩) hg _).setCell (p := ⟨p, 4, none⟩) hg _) hl
theorem Blk.st5 (h : Blk w p t #[a0, a1, a2, a3, a4]) (v0 v1 v2 v3 v4 : Value) : Blk (((((w.setCell ⟨p, 0, none⟩ v0).setCell ⟨p, 1, none⟩ v1).setCell ⟨p, 2, none⟩ v2).setCell ⟨p, 3, none⟩ v3).setCell ⟨p, 4, none⟩ v4) p t #[v0, v1, v2, v3, v4] := by
  have := ((((h.set_ 0 v0).set_ 1 v1).set_ 2 v2).set_ 3 v3).set_ 4 v4
  simpa using this
theorem Stays.st5 (w : World) (hp : p < lo ∨ hi ≤ p) (v0 v1 v2 v3 v4 : Value) : Stays w (((((w.setCell ⟨p, 0, none⟩ v0).setCell ⟨p, 1, none⟩ v1).setCell ⟨p, 2, none⟩ v2).setCell ⟨p, 3, none⟩ v3).setCell ⟨p, 4, none⟩ v4) lo hi :=
  (((((Stays.refl w lo hi).setCell (p := ⟨p, 0, none⟩) hp v0).setCell (p := ⟨p, 1, none⟩) hp v1).setCell (p := ⟨p, 2, none⟩) hp v2).setCell (p := ⟨p, 3, none⟩) hp v3).setCell (p := ⟨p, 4, none⟩) hp v4
theorem size_st5 (w : World) (p : Nat) (v0 v1 v2 v3 v4 : Value) : (((((w.setCell ⟨p, 0, none⟩ v0).setCell ⟨p, 1, none⟩ v1).setCell ⟨p, 2, none⟩ v2).setCell ⟨p, 3, none⟩ v3).setCell ⟨p, 4, none⟩ v4).heap.size = w.heap.size := by simp [World.setCell]
theorem Blk.five (h : Blk w p t #[a0, a1, a2, a3, a4]) : w.cell? ⟨p, 0, none⟩ = some a0 ∧ w.cell? ⟨p, 1, none⟩ = some a1 ∧ w.cell? ⟨p, 2, none⟩ = some a2 ∧ w.cell? ⟨p, 3, none⟩ = some a3 ∧ w.cell? ⟨p, 4, none⟩ = some a4 :=
  ⟨h.cell 0, h.cell 1, h.cell 2, h.cell 3, h.cell 4⟩
end
set_option maxHeartbeats 4000000 in
set_option maxRecDepth 100000 in
theorem cTest4 {g : Nat} {l r : ByteArray} {w : World} (hc : Cur 83 w g) :
    Calls Try.prog 89 #[.pointer (some ⟨g, 0, none⟩), .string l, .string r] w fun e w' => ∃ k, e = .returned (.agg #[.int .i64 k, .string ⟨#[]⟩, .slice none 0 0, .string l, .string r]) ∧ (k = 3 ∨ k = 4 ∨ k = 5) ∧ Dr 83 g w w' := by
  have hgl := hc.lt
  have hb0 : Up w (w.alloc (.cells #[.int .i64 0, .string ⟨#[]⟩, .slice none 0 0, .string ⟨#[]⟩, .string ⟨#[]⟩] 43)) := Up.al1 _ _
  have KR := Lib.hid (Blk.new w 43 #[.int .i64 0, .string ⟨#[]⟩, .slice none 0 0, .string ⟨#[]⟩, .string ⟨#[]⟩])
  have HC := Lib.hid (hc.up hb0)
  have hws : (w.alloc (.cells #[.int .i64 0, .string ⟨#[]⟩, .slice none 0 0, .string ⟨#[]⟩, .string ⟨#[]⟩] 43)).heap.size = w.heap.size + 1 := by simp
  have HB0 := Lib.hid hb0
  clear hc hb0
  go_enter Try.func89, Try.ntmps89
  go_wp2_with fail
  generalize (w.alloc (.cells #[.int .i64 0, .string ⟨#[]⟩, .slice none 0 0, .string ⟨#[]⟩, .string ⟨#[]⟩] 43)) = W at *
  have hal : Up W (W.alloc (.cells ([3, 4, 4, 5].map (Value.int .i64)).toArray 3)) := Up.al1 _ _
  rw [← hws]
  refine (cInt (HC.out.up hal) (IX.row_ 3 W [3, 4, 4, 5] (by decide)) (.inr HC.out.lt) (by decide) (by decide)).mono ?_
  rintro e w1 ⟨k, rfl, hk, hd⟩
  have hdr := Dr.pre hal hd
  have KR1 := Lib.hid (KR.out.dr_ hdr (by omega))
  have HD1 := Lib.hid (Dr.pre HB0.out hdr)
  have hk3 : k = 3 ∨ k = 4 ∨ k = 5 := by simp only [List.mem_cons, List.not_mem_nil, or_false] at hk; omega
  clear hk hd hdr hal KR HC HB0
  obtain ⟨r0, r1, r2, r3, r4⟩ := KR1.out.five
  have rq0 := KR1.out.frozen 0
  have rq1 := KR1.out.frozen 1
  have rq2 := KR1.out.frozen 2
  have rq3 := KR1.out.frozen 3
  have rq4 := KR1.out.frozen 4
  go_wp2
  clear r0 r1 r2 r3 r4 rq0 rq1 rq2 rq3 rq4 
  have hK9 := KR1.out.st5 (.int .i64 k) (.string ⟨#[]⟩) (.slice none 0 0) (.string l) (.string r)
  have hD9 := Dr.st5 HD1.out hgl (Nat.le_refl _) (.int .i64 k) (.string ⟨#[]⟩) (.slice none 0 0) (.string l) (.string r)
  have hz9 := size_st5 w1 w.heap.size (.int .i64 k) (.string ⟨#[]⟩) (.slice none 0 0) (.string l) (.string r)
  generalize (((((w1.setCell ⟨w.heap.size, 0, none⟩ (.int .i64 k)).setCell ⟨w.heap.size, 1, none⟩ (.string ⟨#[]⟩)).setCell ⟨w.heap.size, 2, none⟩ (.slice none 0 0)).setCell ⟨w.heap.size, 3, none⟩ (.string l)).setCell ⟨w.heap.size, 4, none⟩ (.string r)) = W9 at *
  obtain ⟨e0, e1, e2, e3, e4⟩ := hK9.five
  refine bodyPost_ret (v := .agg #[.int .i64 k, .string ⟨#[]⟩, .slice none 0 0, .string l, .string r]) (by simp [results, Try.results89, go_sem, e0, e1, e2, e3, e4]) rfl ?_
  exact ⟨k, rfl, hk3, hD9⟩
set_option maxHeartbeats 4000000 in
set_option maxRecDepth 100000 in
theorem cDrawC {g : Nat} {w : World} (hc : Cur 83 w g) :
    Calls Try.prog 78 #[.pointer (some ⟨g, 0, none⟩)] w fun e w' => ∃ v', e = .returned v' ∧ ∃ x, Ob AC w' w.heap.size w'.heap.size v' x ∧ okCW x ∧ Dr 83 g w w' := by
  have hgl := hc.lt
  have hb0 : Up w (w.alloc (.cells #[.int .i64 0, .string ⟨#[]⟩, .slice none 0 0, .string ⟨#[]⟩, .string ⟨#[]⟩] 43)) := Up.al1 _ _
  have KR := Lib.hid (Blk.new w 43 #[.int .i64 0, .string ⟨#[]⟩, .slice none 0 0, .string ⟨#[]⟩, .string ⟨#[]⟩])
  have HC := Lib.hid (hc.up hb0)
  have hws : (w.alloc (.cells #[.int .i64 0, .string ⟨#[]⟩, .slice none 0 0, .string ⟨#[]⟩, .string ⟨#[]⟩] 43)).heap.size = w.heap.size + 1 := by simp
  have HB0 := Lib.hid hb0
  clear hc hb0
  go_enter Try.func78, Try.ntmps78
  go_wp2_with fail
  generalize (w.alloc (.cells #[.int .i64 0, .string ⟨#[]⟩, .slice none 0 0, .string ⟨#[]⟩, .string ⟨#[]⟩] 43)) = W at *
  refine (cBelow (n := 5) HC.out (by decide) (by decide)).mono ?_
  rintro e w1 ⟨k, rfl, hk, hd⟩
  have HD1 := Lib.hid (Dr.pre HB0.out hd)
  have KR1 := Lib.hid (KR.out.dr_ hd (by omega))
  have hs1 : w.heap.size < w1.heap.size := KR1.out.lt
  clear hd KR HC HB0
  have hcs : (k = 0 ∨ k = 1) ∨ k = 2 ∨ 3 ≤ k := by omega
  rcases hcs with (rfl | rfl) | rfl | hk3
  · skip
    go_wp2_with fail
    refine (cDrawP HD1.out.1).mono ?_
    rintro e w2 ⟨v2, rfl, f, ho, hf, -, hd⟩
    obtain ⟨av, rfl, hto⟩ := ho.1
    obtain ⟨oa, oc, rfl⟩ := hto.tx.form
    have HX2 : Hid (Ob TX w2 w1.heap.size w2.heap.size (.slice oa f.args.length oc) f.args) := ⟨hto.tx, Nat.le_refl _⟩
    have HD2 := Lib.hid (HD1.out.tr hd)
    have KR2 := Lib.hid (KR1.out.dr_ hd (by omega))
    have HF := Lib.hid hf
    have hs2 := hd.2.size
    clear ho hto hf hd HD1 KR1
    obtain ⟨r0, r1, r2, r3, r4⟩ := KR2.out.five
    have rq0 := KR2.out.frozen 0
    have rq1 := KR2.out.frozen 1
    have rq2 := KR2.out.frozen 2
    have rq3 := KR2.out.frozen 3
    have rq4 := KR2.out.frozen 4
    go_wp2
    clear r0 r1 r2 r3 r4 rq0 rq1 rq2 rq3 rq4 
    have hK9 := KR2.out.st5 (.int .i64 1) (.string f.rel) (.slice oa f.args.length oc) (.string ⟨#[]⟩) (.string ⟨#[]⟩)
    have hD9 := Dr.st5 HD2.out hgl (Nat.le_refl _) (.int .i64 1) (.string f.rel) (.slice oa f.args.length oc) (.string ⟨#[]⟩) (.string ⟨#[]⟩)
    have hz9 := size_st5 w2 w.heap.size (.int .i64 1) (.string f.rel) (.slice oa f.args.length oc) (.string ⟨#[]⟩) (.string ⟨#[]⟩)
    have hT9 := HX2.out.1.keep (Stays.st5 w2 (p := w.heap.size) (.inl (by omega)) (.int .i64 1) (.string f.rel) (.slice oa f.args.length oc) (.string ⟨#[]⟩) (.string ⟨#[]⟩))
    generalize (((((w2.setCell ⟨w.heap.size, 0, none⟩ (.int .i64 1)).setCell ⟨w.heap.size, 1, none⟩ (.string f.rel)).setCell ⟨w.heap.size, 2, none⟩ (.slice oa f.args.length oc)).setCell ⟨w.heap.size, 3, none⟩ (.string ⟨#[]⟩)).setCell ⟨w.heap.size, 4, none⟩ (.string ⟨#[]⟩)) = W9 at *
    obtain ⟨e0, e1, e2, e3, e4⟩ := hK9.five
    refine bodyPost_ret (v := .agg #[.int .i64 1, .string f.rel, .slice oa f.args.length oc, .string ⟨#[]⟩, .string ⟨#[]⟩]) (by simp [results, Try.results78, go_sem, e0, e1, e2, e3, e4]) rfl ?_
    exact ⟨_, rfl, ⟨1, f, ⟨#[]⟩, ⟨#[]⟩⟩, ⟨⟨[_, _, _, _, _], rfl, _, rfl, hT9.mono (by omega) (by omega)⟩, Nat.le_refl _⟩, ⟨HF.out, okW_nil, okW_nil⟩, hD9⟩
  · skip
    go_wp2_with fail
    refine (cDrawP HD1.out.1).mono ?_
    rintro e w2 ⟨v2, rfl, f, ho, hf, -, hd⟩
    obtain ⟨av, rfl, hto⟩ := ho.1
    obtain ⟨oa, oc, rfl⟩ := hto.tx.form
    have HX2 : Hid (Ob TX w2 w1.heap.size w2.heap.size (.slice oa f.args.length oc) f.args) := ⟨hto.tx, Nat.le_refl _⟩
    have HD2 := Lib.hid (HD1.out.tr hd)
    have KR2 := Lib.hid (KR1.out.dr_ hd (by omega))
    have HF := Lib.hid hf
    have hs2 := hd.2.size
    clear ho hto hf hd HD1 KR1
    obtain ⟨r0, r1, r2, r3, r4⟩ := KR2.out.five
    have rq0 := KR2.out.frozen 0
    have rq1 := KR2.out.frozen 1
    have rq2 := KR2.out.frozen 2
    have rq3 := KR2.out.frozen 3
    have rq4 := KR2.out.frozen 4
    go_wp2
    clear r0 r1 r2 r3 r4 rq0 rq1 rq2 rq3 rq4 
    have hK9 := KR2.out.st5 (.int .i64 1) (.string f.rel) (.slice oa f.args.length oc) (.string ⟨#[]⟩) (.string ⟨#[]⟩)
    have hD9 := Dr.st5 HD2.out hgl (Nat.le_refl _) (.int .i64 1) (.string f.rel) (.slice oa f.args.length oc) (.string ⟨#[]⟩) (.string ⟨#[]⟩)
    have hz9 := size_st5 w2 w.heap.size (.int .i64 1) (.string f.rel) (.slice oa f.args.length oc) (.string ⟨#[]⟩) (.string ⟨#[]⟩)
    have hT9 := HX2.out.1.keep (Stays.st5 w2 (p := w.heap.size) (.inl (by omega)) (.int .i64 1) (.string f.rel) (.slice oa f.args.length oc) (.string ⟨#[]⟩) (.string ⟨#[]⟩))
    generalize (((((w2.setCell ⟨w.heap.size, 0, none⟩ (.int .i64 1)).setCell ⟨w.heap.size, 1, none⟩ (.string f.rel)).setCell ⟨w.heap.size, 2, none⟩ (.slice oa f.args.length oc)).setCell ⟨w.heap.size, 3, none⟩ (.string ⟨#[]⟩)).setCell ⟨w.heap.size, 4, none⟩ (.string ⟨#[]⟩)) = W9 at *
    obtain ⟨e0, e1, e2, e3, e4⟩ := hK9.five
    refine bodyPost_ret (v := .agg #[.int .i64 1, .string f.rel, .slice oa f.args.length oc, .string ⟨#[]⟩, .string ⟨#[]⟩]) (by simp [results, Try.results78, go_sem, e0, e1, e2, e3, e4]) rfl ?_
    exact ⟨_, rfl, ⟨1, f, ⟨#[]⟩, ⟨#[]⟩⟩, ⟨⟨[_, _, _, _, _], rfl, _, rfl, hT9.mono (by omega) (by omega)⟩, Nat.le_refl _⟩, ⟨HF.out, okW_nil, okW_nil⟩, hD9⟩
  · skip
    go_wp2_with fail
    refine (cDrawP HD1.out.1).mono ?_
    rintro e w2 ⟨v2, rfl, f, ho, hf, -, hd⟩
    obtain ⟨av, rfl, hto⟩ := ho.1
    obtain ⟨oa, oc, rfl⟩ := hto.tx.form
    have HX2 : Hid (Ob TX w2 w1.heap.size w2.heap.size (.slice oa f.args.length oc) f.args) := ⟨hto.tx, Nat.le_refl _⟩
    have HD2 := Lib.hid (HD1.out.tr hd)
    have KR2 := Lib.hid (KR1.out.dr_ hd (by omega))
    have HF := Lib.hid hf
    have hs2 := hd.2.size
    clear ho hto hf hd HD1 KR1
    obtain ⟨r0, r1, r2, r3, r4⟩ := KR2.out.five
    have rq0 := KR2.out.frozen 0
    have rq1 := KR2.out.frozen 1
    have rq2 := KR2.out.frozen 2
    have rq3 := KR2.out.frozen 3
    have rq4 := KR2.out.frozen 4
    go_wp2
    clear r0 r1 r2 r3 r4 rq0 rq1 rq2 rq3 rq4 
    have hK9 := KR2.out.st5 (.int .i64 2) (.string f.rel) (.slice oa f.args.length oc) (.string ⟨#[]⟩) (.string ⟨#[]⟩)
    have hD9 := Dr.st5 HD2.out hgl (Nat.le_refl _) (.int .i64 2) (.string f.rel) (.slice oa f.args.length oc) (.string ⟨#[]⟩) (.string ⟨#[]⟩)
    have hz9 := size_st5 w2 w.heap.size (.int .i64 2) (.string f.rel) (.slice oa f.args.length oc) (.string ⟨#[]⟩) (.string ⟨#[]⟩)
    have hT9 := HX2.out.1.keep (Stays.st5 w2 (p := w.heap.size) (.inl (by omega)) (.int .i64 2) (.string f.rel) (.slice oa f.args.length oc) (.string ⟨#[]⟩) (.string ⟨#[]⟩))
    generalize (((((w2.setCell ⟨w.heap.size, 0, none⟩ (.int .i64 2)).setCell ⟨w.heap.size, 1, none⟩ (.string f.rel)).setCell ⟨w.heap.size, 2, none⟩ (.slice oa f.args.length oc)).setCell ⟨w.heap.size, 3, none⟩ (.string ⟨#[]⟩)).setCell ⟨w.heap.size, 4, none⟩ (.string ⟨#[]⟩)) = W9 at *
    obtain ⟨e0, e1, e2, e3, e4⟩ := hK9.five
    refine bodyPost_ret (v := .agg #[.int .i64 2, .string f.rel, .slice oa f.args.length oc, .string ⟨#[]⟩, .string ⟨#[]⟩]) (by simp [results, Try.results78, go_sem, e0, e1, e2, e3, e4]) rfl ?_
    exact ⟨_, rfl, ⟨2, f, ⟨#[]⟩, ⟨#[]⟩⟩, ⟨⟨[_, _, _, _, _], rfl, _, rfl, hT9.mono (by omega) (by omega)⟩, Nat.le_refl _⟩, ⟨HF.out, okW_nil, okW_nil⟩, hD9⟩
  · have j0 : ((k : Int) == 0) = false := by rw [beq_eq_false_iff_ne]; omega
    have j1 : ((k : Int) == 1) = false := by rw [beq_eq_false_iff_ne]; omega
    have j2 : ((k : Int) == 2) = false := by rw [beq_eq_false_iff_ne]; omega
    go_wp2_with fail
    refine (cTerm HD1.out.1).mono ?_
    rintro e w2 ⟨s, rfl, hs, hd⟩
    have HD2 := Lib.hid (HD1.out.tr hd)
    have KR2 := Lib.hid (KR1.out.dr_ hd (by omega))
    have HS := Lib.hid hs
    clear hs hd HD1 KR1 j0 j1 j2
    go_wp2_with fail
    refine (cTerm HD2.out.1).mono ?_
    rintro e w3 ⟨s2, rfl, hs, hd⟩
    have HD3 := Lib.hid (HD2.out.tr hd)
    have KR3 := Lib.hid (KR2.out.dr_ hd (by omega))
    have HS2 := Lib.hid hs
    clear hs hd HD2 KR2
    go_wp2_with fail
    refine (cTest4 HD3.out.1).mono ?_
    rintro e w4 ⟨q, rfl, hq, hd⟩
    have HD4 := Lib.hid (HD3.out.tr hd)
    have KR4 := Lib.hid (KR3.out.dr_ hd (by omega))
    clear hd HD3 KR3
    obtain ⟨r0, r1, r2, r3, r4⟩ := KR4.out.five
    have rq0 := KR4.out.frozen 0
    have rq1 := KR4.out.frozen 1
    have rq2 := KR4.out.frozen 2
    have rq3 := KR4.out.frozen 3
    have rq4 := KR4.out.frozen 4
    go_wp2
    clear r0 r1 r2 r3 r4 rq0 rq1 rq2 rq3 rq4 
    have hK9 := KR4.out.st5 (.int .i64 q) (.string ⟨#[]⟩) (.slice none 0 0) (.string s) (.string s2)
    have hD9 := Dr.st5 HD4.out hgl (Nat.le_refl _) (.int .i64 q) (.string ⟨#[]⟩) (.slice none 0 0) (.string s) (.string s2)
    have hz9 := size_st5 w4 w.heap.size (.int .i64 q) (.string ⟨#[]⟩) (.slice none 0 0) (.string s) (.string s2)
    generalize (((((w4.setCell ⟨w.heap.size, 0, none⟩ (.int .i64 q)).setCell ⟨w.heap.size, 1, none⟩ (.string ⟨#[]⟩)).setCell ⟨w.heap.size, 2, none⟩ (.slice none 0 0)).setCell ⟨w.heap.size, 3, none⟩ (.string s)).setCell ⟨w.heap.size, 4, none⟩ (.string s2)) = W9 at *
    obtain ⟨e0, e1, e2, e3, e4⟩ := hK9.five
    refine bodyPost_ret (v := .agg #[.int .i64 q, .string ⟨#[]⟩, .slice none 0 0, .string s, .string s2]) (by simp [results, Try.results78, go_sem, e0, e1, e2, e3, e4]) rfl ?_
    exact ⟨_, rfl, ⟨q, ⟨⟨#[]⟩, []⟩, s, s2⟩, ⟨⟨[_, _, _, _, _], rfl, _, rfl, (TO.nil_ 9 _ _ _).tx⟩, Nat.le_refl _⟩, ⟨okFW_nil, HS.out, HS2.out⟩, hD9⟩
set_option maxHeartbeats 4000000 in
set_option maxRecDepth 100000 in
theorem cAnyC {g : Nat} {w : World} (hc : Cur 83 w g) :
    Calls Try.prog 48 #[.pointer (some ⟨g, 0, none⟩)] w fun e w' => ∃ v', e = .returned v' ∧ ∃ x, Ob AC w' w.heap.size w'.heap.size v' x ∧ okCW x ∧ Dr 83 g w w' := by
  have hgl := hc.lt
  have hb0 : Up w (w.alloc (.cells #[.int .i64 0, .string ⟨#[]⟩, .slice none 0 0, .string ⟨#[]⟩, .string ⟨#[]⟩] 43)) := Up.al1 _ _
  have KR := Lib.hid (Blk.new w 43 #[.int .i64 0, .string ⟨#[]⟩, .slice none 0 0, .string ⟨#[]⟩, .string ⟨#[]⟩])
  have HC := Lib.hid (hc.up hb0)
  have hws : (w.alloc (.cells #[.int .i64 0, .string ⟨#[]⟩, .slice none 0 0, .string ⟨#[]⟩, .string ⟨#[]⟩] 43)).heap.size = w.heap.size + 1 := by simp
  have HB0 := Lib.hid hb0
  clear hc hb0
  go_enter Try.func48, Try.ntmps48
  go_wp2_with fail
  generalize (w.alloc (.cells #[.int .i64 0, .string ⟨#[]⟩, .slice none 0 0, .string ⟨#[]⟩, .string ⟨#[]⟩] 43)) = W at *
  refine (cDrawC HC.out).mono ?_
  rintro e w1 ⟨v1, rfl, x, ho, hx, hd⟩
  obtain ⟨oa, oc, rfl⟩ := ho.1.form
  have htx := (Ob.pat ho).1
  obtain ⟨_, e9, av, e8, htx⟩ := htx
  subst e8
  injection e9 with e9
  have e7 : Value.slice oa x.pat.args.length oc = av := by have := congrArg (fun q => q[1]?) e9; simpa using this
  subst e7
  clear e9
  have hal := Up.al1 w1 (.cells #[.int .i64 x.kind, .string x.pat.rel, .slice oa x.pat.args.length oc, .string x.left, .string x.right] 43)
  have HX1 := Lib.hid ((show Ob TX w1 W.heap.size w1.heap.size (.slice oa x.pat.args.length oc) x.pat.args from ⟨htx, Nat.le_refl _⟩).up hal)
  have HD1 := Lib.hid ((Dr.pre HB0.out hd).up hal)
  have KR1 := Lib.hid ((KR.out.dr_ hd (by omega)).up hal)
  have KX1 := Lib.hid (Blk.new w1 43 #[.int .i64 x.kind, .string x.pat.rel, .slice oa x.pat.args.length oc, .string x.left, .string x.right])
  have hs1 := hd.2.size
  have hz1 : (w1.alloc (.cells #[.int .i64 x.kind, .string x.pat.rel, .slice oa x.pat.args.length oc, .string x.left, .string x.right] 43)).heap.size = w1.heap.size + 1 := by simp
  have HPx : Hid (okFW x.pat) := hx.1
  have HLx : Hid (okW x.left = true) := hx.2.1
  have HRx : Hid (okW x.right = true) := hx.2.2
  clear ho htx hd hx hal KR HC HB0
  go_wp2_with fail
  generalize hp : w1.heap.size = p at *
  generalize (w1.alloc (.cells #[.int .i64 x.kind, .string x.pat.rel, .slice oa x.pat.args.length oc, .string x.left, .string x.right] 43)) = W2 at *
  refine (cBelow (n := 12) HD1.out.1 (by decide) (by decide)).mono ?_
  rintro e w2 ⟨k, rfl, hk, hd⟩
  have HD2 := Lib.hid (HD1.out.tr hd)
  have KR2 := Lib.hid (KR1.out.dr_ hd (by omega))
  have KX2 := Lib.hid (KX1.out.dr_ hd (by omega))
  have HX2 := Lib.hid (HX1.out.dr_ hd (.inr (by omega)))
  have hs2 := hd.2.size
  clear hd HD1 KR1 KX1 HX1
  have hcs : k = 0 ∨ k = 1 ∨ k = 2 ∨ 3 ≤ k := by omega
  rcases hcs with rfl | rfl | rfl | hk3
  · have hal : Up w2 (w2.alloc (.cells ([0, 1, 3, 5, 6, -1].map (Value.int .i64)).toArray 3)) := Up.al1 _ _
    go_wp2_with fail
    refine (cInt (HD2.out.1.up hal) (IX.row_ 3 w2 [0, 1, 3, 5, 6, -1] (by decide)) (.inr HD2.out.1.lt) (by decide) (by decide)).mono ?_
    rintro e w3 ⟨q, rfl, hq, hd⟩
    have hdr := Dr.pre hal hd
    have HD3 := Lib.hid (HD2.out.tr hdr)
    have KR3 := Lib.hid (KR2.out.dr_ hdr (by omega))
    have KX3 := Lib.hid (KX2.out.dr_ hdr (by omega))
    have HX3 := Lib.hid (HX2.out.dr_ hdr (.inr (by omega)))
    have hs3 := (hdr).2.size
    clear hd hdr hal hq HD2 KR2 KX2 HX2
    have hKX : Blk (w3.setCell ⟨p, 0, none⟩ (.int .i64 q)) p 43 #[.int .i64 q, .string x.pat.rel, .slice oa x.pat.args.length oc, .string x.left, .string x.right] := by have := KX3.out.set_ 0 (.int .i64 q); simpa using this
    have hKR : Blk (w3.setCell ⟨p, 0, none⟩ (.int .i64 q)) w.heap.size 43 #[.int .i64 0, .string ⟨#[]⟩, .slice none 0 0, .string ⟨#[]⟩, .string ⟨#[]⟩] := KR3.out.far (p := ⟨p, 0, none⟩) (by show w.heap.size ≠ p; omega) _
    have hDx : Dr 83 g w (w3.setCell ⟨p, 0, none⟩ (.int .i64 q)) := HD3.out.own ((Below.refl w.heap.size w3).setCell (p := ⟨p, 0, none⟩) (by show w.heap.size ≤ p; omega) _) hgl
    have hXx : Ob TX (w3.setCell ⟨p, 0, none⟩ (.int .i64 q)) W.heap.size p (.slice oa x.pat.args.length oc) x.pat.args := ⟨HX3.out.1.keep ((Stays.refl w3 W.heap.size p).setCell (p := ⟨p, 0, none⟩) (.inr (Nat.le_refl _)) (.int .i64 q)), by have := HX3.out.2; simpa [World.setCell] using this⟩
    have KX9 := Lib.hid hKX; have KR9 := Lib.hid hKR; have HD9 := Lib.hid hDx; have HX9 := Lib.hid hXx
    clear hKX hKR hDx hXx
    have k0 : w3.cell? ⟨p, 0, none⟩ = some (.int .i64 x.kind) := KX3.out.cell 0
    have f0 := KX3.out.frozen 0
    go_upto_region 9 with fail
    clear k0 f0 HD3 KR3 KX3 HX3
    generalize hW8 : (w3.setCell ⟨p, 0, none⟩ (.int .i64 q)) = W8 at *
    have hs8 : W8.heap.size = w3.heap.size := by rw [← hW8]; simp [World.setCell]
    clear hW8
    obtain ⟨g0, g1, g2, g3, g4⟩ := KX9.out.five
    obtain ⟨r0, r1, r2, r3, r4⟩ := KR9.out.five
    have rq0 := KR9.out.frozen 0
    have rq1 := KR9.out.frozen 1
    have rq2 := KR9.out.frozen 2
    have rq3 := KR9.out.frozen 3
    have rq4 := KR9.out.frozen 4
    go_wp2
    clear r0 r1 r2 r3 r4 rq0 rq1 rq2 rq3 rq4 g0 g1 g2 g3 g4
    have hK9 := KR9.out.st5 (.int .i64 q) (.string x.pat.rel) (.slice oa x.pat.args.length oc) (.string x.left) (.string x.right)
    have hD9 := Dr.st5 HD9.out hgl (Nat.le_refl _) (.int .i64 q) (.string x.pat.rel) (.slice oa x.pat.args.length oc) (.string x.left) (.string x.right)
    have hz9 := size_st5 W8 w.heap.size (.int .i64 q) (.string x.pat.rel) (.slice oa x.pat.args.length oc) (.string x.left) (.string x.right)
    have hT9 := HX9.out.1.keep (Stays.st5 W8 (p := w.heap.size) (.inl (by omega)) (.int .i64 q) (.string x.pat.rel) (.slice oa x.pat.args.length oc) (.string x.left) (.string x.right))
    generalize (((((W8.setCell ⟨w.heap.size, 0, none⟩ (.int .i64 q)).setCell ⟨w.heap.size, 1, none⟩ (.string x.pat.rel)).setCell ⟨w.heap.size, 2, none⟩ (.slice oa x.pat.args.length oc)).setCell ⟨w.heap.size, 3, none⟩ (.string x.left)).setCell ⟨w.heap.size, 4, none⟩ (.string x.right)) = W9 at *
    obtain ⟨e0, e1, e2, e3, e4⟩ := hK9.five
    refine bodyPost_ret (v := .agg #[.int .i64 q, .string x.pat.rel, .slice oa x.pat.args.length oc, .string x.left, .string x.right]) (by simp [results, Try.results48, go_sem, e0, e1, e2, e3, e4]) rfl ?_
    exact ⟨_, rfl, ⟨q, x.pat, x.left, x.right⟩, ⟨⟨[_, _, _, _, _], rfl, _, rfl, hT9.mono (by omega) (by omega)⟩, Nat.le_refl _⟩, ⟨HPx.out, HLx.out, HRx.out⟩, hD9⟩
  · go_wp2_with fail
    refine (cWord HD2.out.1).mono ?_
    rintro e w3 ⟨s, rfl, hs, hd⟩
    have HS := Lib.hid hs
    have HD3 := Lib.hid (HD2.out.tr hd)
    have KR3 := Lib.hid (KR2.out.dr_ hd (by omega))
    have KX3 := Lib.hid (KX2.out.dr_ hd (by omega))
    have HX3 := Lib.hid (HX2.out.dr_ hd (.inr (by omega)))
    have hs3 := (hd).2.size
    clear hd hs HD2 KR2 KX2 HX2
    have hKX : Blk (w3.setCell ⟨p, 3, none⟩ (.string s)) p 43 #[.int .i64 x.kind, .string x.pat.rel, .slice oa x.pat.args.length oc, .string s, .string x.right] := by have := KX3.out.set_ 3 (.string s); simpa using this
    have hKR : Blk (w3.setCell ⟨p, 3, none⟩ (.string s)) w.heap.size 43 #[.int .i64 0, .string ⟨#[]⟩, .slice none 0 0, .string ⟨#[]⟩, .string ⟨#[]⟩] := KR3.out.far (p := ⟨p, 3, none⟩) (by show w.heap.size ≠ p; omega) _
    have hDx : Dr 83 g w (w3.setCell ⟨p, 3, none⟩ (.string s)) := HD3.out.own ((Below.refl w.heap.size w3).setCell (p := ⟨p, 3, none⟩) (by show w.heap.size ≤ p; omega) _) hgl
    have hXx : Ob TX (w3.setCell ⟨p, 3, none⟩ (.string s)) W.heap.size p (.slice oa x.pat.args.length oc) x.pat.args := ⟨HX3.out.1.keep ((Stays.refl w3 W.heap.size p).setCell (p := ⟨p, 3, none⟩) (.inr (Nat.le_refl _)) (.string s)), by have := HX3.out.2; simpa [World.setCell] using this⟩
    have KX9 := Lib.hid hKX; have KR9 := Lib.hid hKR; have HD9 := Lib.hid hDx; have HX9 := Lib.hid hXx
    clear hKX hKR hDx hXx
    have k0 : w3.cell? ⟨p, 3, none⟩ = some (.string x.left) := KX3.out.cell 3
    have f0 := KX3.out.frozen 3
    go_upto_region 9 with fail
    clear k0 f0 HD3 KR3 KX3 HX3
    generalize hW8 : (w3.setCell ⟨p, 3, none⟩ (.string s)) = W8 at *
    have hs8 : W8.heap.size = w3.heap.size := by rw [← hW8]; simp [World.setCell]
    clear hW8
    obtain ⟨g0, g1, g2, g3, g4⟩ := KX9.out.five
    obtain ⟨r0, r1, r2, r3, r4⟩ := KR9.out.five
    have rq0 := KR9.out.frozen 0
    have rq1 := KR9.out.frozen 1
    have rq2 := KR9.out.frozen 2
    have rq3 := KR9.out.frozen 3
    have rq4 := KR9.out.frozen 4
    go_wp2
    clear r0 r1 r2 r3 r4 rq0 rq1 rq2 rq3 rq4 g0 g1 g2 g3 g4
    have hK9 := KR9.out.st5 (.int .i64 x.kind) (.string x.pat.rel) (.slice oa x.pat.args.length oc) (.string s) (.string x.right)
    have hD9 := Dr.st5 HD9.out hgl (Nat.le_refl _) (.int .i64 x.kind) (.string x.pat.rel) (.slice oa x.pat.args.length oc) (.string s) (.string x.right)
    have hz9 := size_st5 W8 w.heap.size (.int .i64 x.kind) (.string x.pat.rel) (.slice oa x.pat.args.length oc) (.string s) (.string x.right)
    have hT9 := HX9.out.1.keep (Stays.st5 W8 (p := w.heap.size) (.inl (by omega)) (.int .i64 x.kind) (.string x.pat.rel) (.slice oa x.pat.args.length oc) (.string s) (.string x.right))
    generalize (((((W8.setCell ⟨w.heap.size, 0, none⟩ (.int .i64 x.kind)).setCell ⟨w.heap.size, 1, none⟩ (.string x.pat.rel)).setCell ⟨w.heap.size, 2, none⟩ (.slice oa x.pat.args.length oc)).setCell ⟨w.heap.size, 3, none⟩ (.string s)).setCell ⟨w.heap.size, 4, none⟩ (.string x.right)) = W9 at *
    obtain ⟨e0, e1, e2, e3, e4⟩ := hK9.five
    refine bodyPost_ret (v := .agg #[.int .i64 x.kind, .string x.pat.rel, .slice oa x.pat.args.length oc, .string s, .string x.right]) (by simp [results, Try.results48, go_sem, e0, e1, e2, e3, e4]) rfl ?_
    exact ⟨_, rfl, ⟨x.kind, x.pat, s, x.right⟩, ⟨⟨[_, _, _, _, _], rfl, _, rfl, hT9.mono (by omega) (by omega)⟩, Nat.le_refl _⟩, ⟨HPx.out, HS.out, HRx.out⟩, hD9⟩
  · go_wp2_with fail
    refine (cAnyP HD2.out.1).mono ?_
    rintro e w3 ⟨v3, rfl, f, ho, hf, hd⟩
    obtain ⟨_, rfl, av, rfl, htx⟩ := ho.1
    obtain ⟨na, nc, rfl⟩ := htx.form
    have HD3 := Lib.hid (HD2.out.tr hd)
    have KR3 := Lib.hid (KR2.out.dr_ hd (by omega))
    have KX3 := Lib.hid (KX2.out.dr_ hd (by omega))
    have HX3 := Lib.hid (HX2.out.dr_ hd (.inr (by omega)))
    have hs3 := (hd).2.size
    have HF := Lib.hid hf
    have HY3 : Hid (TX w3 w2.heap.size w3.heap.size (.slice na f.args.length nc) f.args) := htx
    clear hd hf ho htx HD2 KR2 KX2 HX2
    have hKX : Blk ((w3.setCell ⟨p, 1, none⟩ (.string f.rel)).setCell ⟨p, 2, none⟩ (.slice na f.args.length nc)) p 43 #[.int .i64 x.kind, .string f.rel, .slice na f.args.length nc, .string x.left, .string x.right] := by have := (KX3.out.set_ 1 (.string f.rel)).set_ 2 (.slice na f.args.length nc); simpa using this
    have hKR : Blk ((w3.setCell ⟨p, 1, none⟩ (.string f.rel)).setCell ⟨p, 2, none⟩ (.slice na f.args.length nc)) w.heap.size 43 #[.int .i64 0, .string ⟨#[]⟩, .slice none 0 0, .string ⟨#[]⟩, .string ⟨#[]⟩] := (KR3.out.far (p := ⟨p, 1, none⟩) (by show w.heap.size ≠ p; omega) _).far (p := ⟨p, 2, none⟩) (by show w.heap.size ≠ p; omega) _
    have hDx : Dr 83 g w ((w3.setCell ⟨p, 1, none⟩ (.string f.rel)).setCell ⟨p, 2, none⟩ (.slice na f.args.length nc)) := HD3.out.own (((Below.refl w.heap.size w3).setCell (p := ⟨p, 1, none⟩) (by show w.heap.size ≤ p; omega) _).setCell (p := ⟨p, 2, none⟩) (by show w.heap.size ≤ p; omega) _) hgl
    have hzx : ((w3.setCell ⟨p, 1, none⟩ (.string f.rel)).setCell ⟨p, 2, none⟩ (.slice na f.args.length nc)).heap.size = w3.heap.size := by simp [World.setCell]
    have hXx : Ob TX ((w3.setCell ⟨p, 1, none⟩ (.string f.rel)).setCell ⟨p, 2, none⟩ (.slice na f.args.length nc)) w2.heap.size w3.heap.size (.slice na f.args.length nc) f.args := ⟨HY3.out.keep (((Stays.refl w3 w2.heap.size w3.heap.size).setCell (p := ⟨p, 1, none⟩) (.inl (by show p < w2.heap.size; omega)) (.string f.rel)).setCell (p := ⟨p, 2, none⟩) (.inl (by show p < w2.heap.size; omega)) (.slice na f.args.length nc)), by omega⟩
    have KX9 := Lib.hid hKX; have KR9 := Lib.hid hKR; have HD9 := Lib.hid hDx; have HX9 := Lib.hid hXx
    clear hKX hKR hDx hXx
    have k0 : w3.cell? ⟨p, 1, none⟩ = some (.string x.pat.rel) := KX3.out.cell 1
    have k1 : w3.cell? ⟨p, 2, none⟩ = some (.slice oa x.pat.args.length oc) := KX3.out.cell 2
    have f0 := KX3.out.frozen 1
    have f1 := KX3.out.frozen 2
    go_upto_region 9 with fail
    clear k0 k1 f0 f1 HD3 KR3 KX3 HX3
    generalize hW8 : ((w3.setCell ⟨p, 1, none⟩ (.string f.rel)).setCell ⟨p, 2, none⟩ (.slice na f.args.length nc)) = W8 at *
    clear hW8
    obtain ⟨g0, g1, g2, g3, g4⟩ := KX9.out.five
    obtain ⟨r0, r1, r2, r3, r4⟩ := KR9.out.five
    have rq0 := KR9.out.frozen 0
    have rq1 := KR9.out.frozen 1
    have rq2 := KR9.out.frozen 2
    have rq3 := KR9.out.frozen 3
    have rq4 := KR9.out.frozen 4
    go_wp2
    clear r0 r1 r2 r3 r4 rq0 rq1 rq2 rq3 rq4 g0 g1 g2 g3 g4
    have hK9 := KR9.out.st5 (.int .i64 x.kind) (.string f.rel) (.slice na f.args.length nc) (.string x.left) (.string x.right)
    have hD9 := Dr.st5 HD9.out hgl (Nat.le_refl _) (.int .i64 x.kind) (.string f.rel) (.slice na f.args.length nc) (.string x.left) (.string x.right)
    have hz9 := size_st5 W8 w.heap.size (.int .i64 x.kind) (.string f.rel) (.slice na f.args.length nc) (.string x.left) (.string x.right)
    have hT9 := HX9.out.1.keep (Stays.st5 W8 (p := w.heap.size) (.inl (by omega)) (.int .i64 x.kind) (.string f.rel) (.slice na f.args.length nc) (.string x.left) (.string x.right))
    generalize (((((W8.setCell ⟨w.heap.size, 0, none⟩ (.int .i64 x.kind)).setCell ⟨w.heap.size, 1, none⟩ (.string f.rel)).setCell ⟨w.heap.size, 2, none⟩ (.slice na f.args.length nc)).setCell ⟨w.heap.size, 3, none⟩ (.string x.left)).setCell ⟨w.heap.size, 4, none⟩ (.string x.right)) = W9 at *
    obtain ⟨e0, e1, e2, e3, e4⟩ := hK9.five
    refine bodyPost_ret (v := .agg #[.int .i64 x.kind, .string f.rel, .slice na f.args.length nc, .string x.left, .string x.right]) (by simp [results, Try.results48, go_sem, e0, e1, e2, e3, e4]) rfl ?_
    exact ⟨_, rfl, ⟨x.kind, f, x.left, x.right⟩, ⟨⟨[_, _, _, _, _], rfl, _, rfl, hT9.mono (by omega) (by omega)⟩, Nat.le_refl _⟩, ⟨HF.out, HLx.out, HRx.out⟩, hD9⟩
  · have j0 : ((k : Int) == 0) = false := by rw [beq_eq_false_iff_ne]; omega
    have j1 : ((k : Int) == 1) = false := by rw [beq_eq_false_iff_ne]; omega
    have j2 : ((k : Int) == 2) = false := by rw [beq_eq_false_iff_ne]; omega
    go_upto_region 9 with fail
    clear j0 j1 j2
    obtain ⟨g0, g1, g2, g3, g4⟩ := KX2.out.five
    obtain ⟨r0, r1, r2, r3, r4⟩ := KR2.out.five
    have rq0 := KR2.out.frozen 0
    have rq1 := KR2.out.frozen 1
    have rq2 := KR2.out.frozen 2
    have rq3 := KR2.out.frozen 3
    have rq4 := KR2.out.frozen 4
    go_wp2
    clear r0 r1 r2 r3 r4 rq0 rq1 rq2 rq3 rq4 g0 g1 g2 g3 g4
    have hK9 := KR2.out.st5 (.int .i64 x.kind) (.string x.pat.rel) (.slice oa x.pat.args.length oc) (.string x.left) (.string x.right)
    have hD9 := Dr.st5 HD2.out hgl (Nat.le_refl _) (.int .i64 x.kind) (.string x.pat.rel) (.slice oa x.pat.args.length oc) (.string x.left) (.string x.right)
    have hz9 := size_st5 w2 w.heap.size (.int .i64 x.kind) (.string x.pat.rel) (.slice oa x.pat.args.length oc) (.string x.left) (.string x.right)
    have hT9 := HX2.out.1.keep (Stays.st5 w2 (p := w.heap.size) (.inl (by omega)) (.int .i64 x.kind) (.string x.pat.rel) (.slice oa x.pat.args.length oc) (.string x.left) (.string x.right))
    generalize (((((w2.setCell ⟨w.heap.size, 0, none⟩ (.int .i64 x.kind)).setCell ⟨w.heap.size, 1, none⟩ (.string x.pat.rel)).setCell ⟨w.heap.size, 2, none⟩ (.slice oa x.pat.args.length oc)).setCell ⟨w.heap.size, 3, none⟩ (.string x.left)).setCell ⟨w.heap.size, 4, none⟩ (.string x.right)) = W9 at *
    obtain ⟨e0, e1, e2, e3, e4⟩ := hK9.five
    refine bodyPost_ret (v := .agg #[.int .i64 x.kind, .string x.pat.rel, .slice oa x.pat.args.length oc, .string x.left, .string x.right]) (by simp [results, Try.results48, go_sem, e0, e1, e2, e3, e4]) rfl ?_
    exact ⟨_, rfl, x, ⟨⟨[_, _, _, _, _], rfl, _, rfl, hT9.mono (by omega) (by omega)⟩, Nat.le_refl _⟩, ⟨HPx.out, HLx.out, HRx.out⟩, hD9⟩
end Go.Proofs.Ytpkphijfncbbiaa
