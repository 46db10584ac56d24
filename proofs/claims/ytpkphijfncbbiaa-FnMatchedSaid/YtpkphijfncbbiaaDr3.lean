/- Facts and patterns that are drawn: of each it is said that its words are drawn words and that it is short. -/
import Derived.Deep.AppendLies
import Derived.Deep.RegionLaw
import Derived.Deep.DeepCutAuto
import Derived.Test.YtpkphijfncbbiaaDr1
import Derived.Test.YtpkphijfncbbiaaFact
namespace Go.Proofs.Ytpkphijfncbbiaa
open Go.RowKit
attribute [local go_sem ↓] Go.wp_at_zero Go.wp_at_succ
set_option linter.unusedVariables false
def okFW (f : FactV) : Prop := okW f.rel = true ∧ (∀ s ∈ f.args, okW s = true) ∧ f.args.length ≤ 5
theorem okFW_fsz {f : FactV} (h : okFW f) : fsz f ≤ 59 := by
  obtain ⟨h1, h2, h3⟩ := h
  have hr := okW_size h1
  have hs : tsum f.args ≤ f.args.length * 9 := by
    generalize f.args = L at h2
    induction L with
    | nil => simp [tsum]
    | cons a r ih =>
      have := okW_size (h2 a (by simp))
      have := ih fun s hs => h2 s (by simp [hs])
      simp only [tsum, List.length_cons, Nat.add_mul, Nat.one_mul]; omega
  have : f.args.length * 9 ≤ 5 * 9 := Nat.mul_le_mul_right _ h3
  unfold fsz tsz; omega
section
variable {T : TypeId} {w W W' : World} {g B : Nat}
/-- writes to the call's own blocks turn neither the cursor nor what was there -/
theorem Cur.below (h : Cur T W g) (hb : Below B W W') (hg : g < B) : Cur T W' g := by
  obtain ⟨bv, L, lo, hi, i, x, h1, h2, h3, h4, h5⟩ := h
  exact ⟨bv, L, lo, hi, i, x, h1.below hb hg, ⟨Kp.keep h2.1 (Stays.of_below hb (by omega)), Nat.le_trans h2.2 hb.size⟩, h3, h4, h5⟩
theorem Dr.own (h : Dr T g w W) (hb : Below w.heap.size W W') (hg : g < w.heap.size) : Dr T g w W' :=
  ⟨h.1.below hb hg, ⟨hb.os.trans h.2.os, hb.tape.trans h.2.tape, hb.output.trans h.2.output, Nat.le_trans h.2.size hb.size, fun k hk ho => (hb.block k hk).trans (h.2.block k hk ho)⟩⟩
theorem Below.al_ {a b : World} (h : Below B a b) (hB : B ≤ b.heap.size) (o : Obj) : Below B a (b.alloc o) := h.alloc hB o
end
set_option maxHeartbeats 2000000 in
theorem cRel {g : Nat} {w : World} (hc : Cur 83 w g) :
    Calls Try.prog 87 #[.pointer (some ⟨g, 0, none⟩)] w fun e w' => ∃ (r : ByteArray) (n : Nat), e = .returned (.tuple #[.string r, .int .i64 n]) ∧ okW r = true ∧ n ≤ 2 ∧ Dr 83 g w w' := by
  have HC := Lib.hid hc
  clear hc
  go_enter Try.func87, Try.ntmps87
  go_wp2_with fail
  refine (cBelow (n := 6) HC.out (by decide) (by decide)).mono ?_
  rintro e w1 ⟨k, rfl, hk, hd⟩
  have HD := Lib.hid hd
  clear hd
  have hk6 : k = 0 ∨ k = 1 ∨ k = 2 ∨ k = 3 ∨ k = 4 ∨ k = 5 := by omega
  rcases hk6 with rfl | rfl | rfl | rfl | rfl | rfl
  all_goals
    go_wp2_with fail
    go_region
    all_goals
      go_wp2
      go_ret2
      first
        | exact ⟨_, 2, rfl, by decide, by omega, HD.out.up ((Up.rf _).dr.al _ |>.al _)⟩
        | exact ⟨_, 1, rfl, by decide, by omega, HD.out.up ((Up.rf _).dr.al _ |>.al _)⟩
        | exact ⟨_, 0, rfl, by decide, by omega, HD.out.up ((Up.rf _).dr.al _ |>.al _)⟩
set_option maxHeartbeats 4000000 in
set_option maxRecDepth 100000 in
theorem cDrawF {g : Nat} {w : World} (hc : Cur 83 w g) :
    Calls Try.prog 83 #[.pointer (some ⟨g, 0, none⟩)] w fun e w' => ∃ v', e = .returned v' ∧ ∃ f, Ob (FO 9) w' w.heap.size w'.heap.size v' f ∧ okFW f ∧ f.args.length ≤ 2 ∧ Dr 83 g w w' := by
  have hgl := hc.lt
  obtain ⟨i0, hi0, hz0, hz1, hz2⟩ := info_parts Try.infoStr
  have hb0 : Up w (w.alloc (.cells #[.string ⟨#[]⟩, .slice none 0 0] 35)) := Up.al1 _ _
  have KR := Lib.hid (Blk.new w 35 #[.string ⟨#[]⟩, .slice none 0 0])
  have HC := Lib.hid (hc.up hb0)
  have hws : (w.alloc (.cells #[.string ⟨#[]⟩, .slice none 0 0] 35)).heap.size = w.heap.size + 1 := by simp
  have HB0 := Lib.hid hb0
  clear hc hb0
  go_enter Try.func83, Try.ntmps83
  go_wp2_with fail
  generalize (w.alloc (.cells #[.string ⟨#[]⟩, .slice none 0 0] 35)) = W at *
  refine (cRel HC.out).mono ?_
  rintro e w1 ⟨r, n, rfl, hr, hn, hd⟩
  have HR := Lib.hid hr
  have hsz1 := hd.2.size
  have KR1 := Lib.hid ((KR.out.dr_ hd (by omega)).alloc (.cells #[.string r, .slice none 0 0] 35))
  have HD1 := Lib.hid ((Dr.pre HB0.out hd).up (Up.al1 w1 (.cells #[.string r, .slice none 0 0] 35)))
  have HK1 := Lib.hid (Blk.new w1 35 #[.string r, .slice none 0 0])
  have hz1w : (w1.alloc (.cells #[.string r, .slice none 0 0] 35)).heap.size = w1.heap.size + 1 := by simp
  clear hr hd KR HC HB0
  go_wp2_with fail
  generalize (w1.alloc (.cells #[.string r, .slice none 0 0] 35)) = W2 at *
  generalize hp : w1.heap.size = p at *
  have hwp : w.heap.size < p := by omega
  go_loopw [6] (fun i wr => ∃ (k : Nat) (av : Value) (M : List ByteArray), k ≤ n ∧ i = .int .i64 k ∧ M.length = k ∧ Hid (∀ s ∈ M, okW s = true) ∧ p < wr.heap.size ∧ Hid (Dr 83 g w wr) ∧ Hid (Blk wr w.heap.size 35 #[.string ⟨#[]⟩, .slice none 0 0]) ∧ Hid (Blk wr p 35 #[.string r, av]) ∧ Hid (TO 9 wr (p + 1) wr.heap.size av M)) (fun i _ => n - (intOf i).toNat)
  case atStart =>
    have h0 : Hid (∀ s ∈ ([] : List ByteArray), okW s = true) := fun s h => by cases h
    exact ⟨0, .slice none 0 0, [], Nat.zero_le _, rfl, rfl, h0, by omega, HD1.out, KR1.out, HK1.out, TO.nil_ _ _ _ _⟩
  case round =>
    clear HD1 KR1 HK1 hz1w
    obtain ⟨k, av, M, hk, rfl, hM, HM, hps, HD, KR, HK, HTO⟩ := hrel
    have i1 : (0 : Int) ≤ (k : Int) := by omega
    by_cases hlt : k < n
    · have i2 : (k : Int) < (n : Int) := by omega
      have k1 : wr.cell? ⟨p, 1, none⟩ = some av := HK.out.cell 1
      have hdr0 : Up wr wr.drew := (Up.rf _).dr
      go_wp2_with fail
      have k1d : wr.drew.cell? ⟨p, 1, none⟩ = some av := (HK.out.up hdr0).cell 1
      have HCr := Lib.hid (HD.out.1.up hdr0)
      go_region_law
        (first
          | (refine step_append_lies _ (by rfl) _ _ _ (by rfl) (p + 1) 9 i0 _ 1 16 Try.underlying22 hi0 hz0 hz1 hz2 ?_ ?_ av M.length (M.map Value.string) ?_ (HTO5.out.1.1.alloc _) ⟨w5.heap.size, 0, none⟩ 1 1 [.string s] ?_ ?_ ?_ ?_ ?_ ?_ ?_ ?_ (w5.heap.size + 1) ?_ ?_
             · rfl
             · omega
             · rfl
             · rfl
             · rfl
             · exact (news1 (Blk.new w5 9 #[.string s]))
             · exact (one1 rfl)
             · omega
             · unfold maxLen; omega
             · omega
             · simp; omega
             · simp
             intro gg cp w6 hown' hgrow hat hltg
             have hrow : ∀ b, av.ownBlock = some b → p + 1 ≤ b := (fun b hb => (HTO5.out.1.1.lt b hb).1)
             have hnp : ∀ b, b ≤ p → some b ≠ av.ownBlock := (fun b hb h => by have := hrow b h.symm; omega)
             have hal : Up w5 (w5.alloc (.cells #[.string s] 9)) := Up.al1 _ _
             have HK6 : Hid (Blk w6 p 35 #[.string r, av]) := ((hgrow.block p (HK5.out.up hal).lt (hnp p (Nat.le_refl _))).trans (HK5.out.up hal))
             have KR6 : Hid (Blk w6 w.heap.size 35 #[.string ⟨#[]⟩, .slice none 0 0]) := ((hgrow.block w.heap.size (KR5.out.up hal).lt (hnp _ (by omega))).trans (KR5.out.up hal))
             have HTO6 : Hid (TO 9 w6 (p + 1) w6.heap.size (.slice (some ⟨gg, 0, none⟩) (M.length + 1) cp) (M ++ [s])) := TO.snoc hown'
             have HD6 : Hid (Dr 83 g w w6) := HD5.out.own (((Below.refl w.heap.size w5).alloc (by omega) _).grown hgrow (by simp; omega) (fun b hb => by have := hrow b hb; omega)) hgl
             have hs6 : w5.heap.size + 1 ≤ w6.heap.size := (by have := hgrow.size; simpa using this)
             have k1 : w6.cell? ⟨p, 1, none⟩ = some av := HK6.out.cell 1
             have f1 := HK6.out.frozen 1
             clear hown' hgrow hat hltg hrow hnp hal)
          | (go_simp; go_at_call 63; (with_reducible refine (cAtom HCr.out).mono ?_); rintro e w5 ⟨s, rfl, hs, hd5⟩; have hdr := Dr.pre hdr0 hd5; have HS := Lib.hid hs; have HK5 := Lib.hid (HK.out.dr_ hdr (by omega)); have KR5 := Lib.hid (KR.out.dr_ hdr (by omega)); have HTO5 := Lib.hid ((show Ob (TO 9) wr (p + 1) wr.heap.size av M from ⟨HTO.out, Nat.le_refl _⟩).dr_ hdr (.inr (by omega))); have HD5 := Lib.hid (HD.out.tr hdr); have h5s : wr.heap.size ≤ w5.heap.size := hdr.2.size; have k1 : w5.cell? ⟨p, 1, none⟩ = some av := HK5.out.cell 1; have k1a : (w5.alloc (.cells #[.string s] 9)).cell? ⟨p, 1, none⟩ = some av := (HK5.out.alloc _).cell 1; clear hd5 hdr hs))
      all_goals
        go_wp2
        clear k1 f1
        have hT6 := HTO6.out
        rw [hM] at hT6
        have hK7 : Blk (w6.setCell ⟨p, 1, none⟩ (.slice (some ⟨gg, 0, none⟩) (k + 1) cp)) p 35 #[.string r, .slice (some ⟨gg, 0, none⟩) (k + 1) cp] := by have := HK6.out.set_ 1 (.slice (some ⟨gg, 0, none⟩) (k + 1) cp); simpa using this
        have hR7 : Blk (w6.setCell ⟨p, 1, none⟩ (.slice (some ⟨gg, 0, none⟩) (k + 1) cp)) w.heap.size 35 #[.string ⟨#[]⟩, .slice none 0 0] := KR6.out.far (p := ⟨p, 1, none⟩) (by show w.heap.size ≠ p; omega) _
        have hD7 : Dr 83 g w (w6.setCell ⟨p, 1, none⟩ (.slice (some ⟨gg, 0, none⟩) (k + 1) cp)) := HD6.out.own ((Below.refl w.heap.size w6).setCell (p := ⟨p, 1, none⟩) (by show w.heap.size ≤ p; omega) _) hgl
        have hz7 : w6.heap.size = (w6.setCell ⟨p, 1, none⟩ (.slice (some ⟨gg, 0, none⟩) (k + 1) cp)).heap.size := by simp [World.setCell]
        have hT7 := (hT6.keep ((Stays.refl w6 (p + 1) w6.heap.size).setCell (p := ⟨p, 1, none⟩) (.inl (by simp)) (.slice (some ⟨gg, 0, none⟩) (k + 1) cp))).mono (Nat.le_refl _) (Nat.le_of_eq hz7)
        have hM7 : ∀ t ∈ M ++ [s], okW t = true := fun t ht => by
          rcases List.mem_append.1 ht with ht | ht
          · exact HM.out t ht
          · simp at ht; subst ht; exact HS.out
        exact ⟨⟨k + 1, _, M ++ [s], by omega, by go_num, by simp; omega, hM7, by omega, hD7, hR7, hK7, hT7⟩, by simp [intOf]; omega⟩
    · have i2 : ¬ (k : Int) < (n : Int) := by omega
      obtain ⟨oa, oc, e6⟩ := HTO.out.tx.form
      rw [hM] at e6
      subst e6
      have g0 : wr.cell? ⟨p, 0, none⟩ = some (.string r) := HK.out.cell 0
      have g1 : wr.cell? ⟨p, 1, none⟩ = some (.slice oa k oc) := HK.out.cell 1
      have r0 : wr.cell? ⟨w.heap.size, 0, none⟩ = some (.string ⟨#[]⟩) := KR.out.cell 0
      have r1 : wr.cell? ⟨w.heap.size, 1, none⟩ = some (.slice none 0 0) := KR.out.cell 1
      have q0 := KR.out.frozen 0
      have q1 := KR.out.frozen 1
      go_wp2
      clear g0 g1 r0 r1 q0 q1
      have hK9 : Blk ((wr.setCell ⟨w.heap.size, 0, none⟩ (.string r)).setCell ⟨w.heap.size, 1, none⟩ (.slice oa k oc)) w.heap.size 35 #[.string r, .slice oa k oc] := by have := (KR.out.set_ 0 (.string r)).set_ 1 (.slice oa k oc); simpa using this
      have hD9 : Dr 83 g w ((wr.setCell ⟨w.heap.size, 0, none⟩ (.string r)).setCell ⟨w.heap.size, 1, none⟩ (.slice oa k oc)) := HD.out.own (((Below.refl w.heap.size wr).setCell (p := ⟨w.heap.size, 0, none⟩) (Nat.le_refl _) _).setCell (p := ⟨w.heap.size, 1, none⟩) (Nat.le_refl _) _) hgl
      have hz9 : wr.heap.size = ((wr.setCell ⟨w.heap.size, 0, none⟩ (.string r)).setCell ⟨w.heap.size, 1, none⟩ (.slice oa k oc)).heap.size := by simp [World.setCell]
      have hT9 := (HTO.out.keep (((Stays.refl wr (p + 1) wr.heap.size).setCell (p := ⟨w.heap.size, 0, none⟩) (.inl (by show w.heap.size < p + 1; omega)) (.string r)).setCell (p := ⟨w.heap.size, 1, none⟩) (.inl (by show w.heap.size < p + 1; omega)) (.slice oa k oc))).mono (show w.heap.size ≤ p + 1 by omega) (Nat.le_of_eq hz9)
      generalize ((wr.setCell ⟨w.heap.size, 0, none⟩ (.string r)).setCell ⟨w.heap.size, 1, none⟩ (.slice oa k oc)) = W9 at *
      have e0 := hK9.cell0; have e1 := hK9.cell1
      refine bodyPost_ret (v := .agg #[.string r, .slice oa k oc]) (by simp [results, Try.results83, go_sem, e0, e1]) rfl ?_
      exact ⟨_, rfl, ⟨r, M⟩, ⟨⟨_, by show Value.agg _ = Value.agg #[.string r, .slice oa k oc]; rfl, hT9⟩, Nat.le_refl _⟩, ⟨HR.out, HM.out, by show M.length ≤ 5; omega⟩, by show M.length ≤ 2; omega, hD9⟩
def termsL : List ByteArray := [⟨#[63, 120]⟩, ⟨#[63, 121]⟩, ⟨#[63, 122]⟩]
theorem termsL_ok : termsL.all okW = true := by decide
theorem cTerm {g : Nat} {w : World} (hc : Cur 83 w g) :
    Calls Try.prog 88 #[.pointer (some ⟨g, 0, none⟩)] w fun e w' => ∃ s, e = .returned (.string s) ∧ okW s = true ∧ Dr 83 g w w' := by
  have HC := Lib.hid hc
  clear hc
  go_enter Try.func88, Try.ntmps88
  go_wp2_with fail
  refine (cOnce (n := 4) HC.out (by decide) (by decide)).mono ?_
  rintro e w1 ⟨b, rfl, hd⟩
  have HD1 := Lib.hid hd
  clear hd
  cases b
  · go_wp2_with fail
    refine (cStr (HD1.out.1.up (Up.al1 _ _)) (TX.row_ 9 w1 termsL (by decide)) (.inr HD1.out.1.lt) (by decide) (by decide)).mono ?_
    rintro e w2 ⟨s, rfl, hs, hd⟩
    have HS := Lib.hid (okW_in termsL_ok hs)
    have HD2 := Lib.hid (HD1.out.tr (Dr.pre (Up.al1 _ _) hd))
    clear hd hs
    go_wp2
    go_ret
    exact ⟨_, rfl, HS.out, HD2.out⟩
  · go_wp2_with fail
    refine (cAtom HD1.out.1).mono ?_
    rintro e w2 ⟨s, rfl, hs, hd⟩
    have HS := Lib.hid hs
    have HD2 := Lib.hid (HD1.out.tr hd)
    clear hd hs
    go_wp2
    go_ret
    exact ⟨_, rfl, HS.out, HD2.out⟩
set_option maxHeartbeats 4000000 in
set_option maxRecDepth 100000 in
theorem cDrawP {g : Nat} {w : World} (hc : Cur 83 w g) :
    Calls Try.prog 73 #[.pointer (some ⟨g, 0, none⟩)] w fun e w' => ∃ v', e = .returned v' ∧ ∃ f, Ob (FO 9) w' w.heap.size w'.heap.size v' f ∧ okFW f ∧ f.args.length ≤ 2 ∧ Dr 83 g w w' := by
  have hgl := hc.lt
  obtain ⟨i0, hi0, hz0, hz1, hz2⟩ := info_parts Try.infoStr
  have hb0 : Up w (w.alloc (.cells #[.string ⟨#[]⟩, .slice none 0 0] 27)) := Up.al1 _ _
  have KR := Lib.hid (Blk.new w 27 #[.string ⟨#[]⟩, .slice none 0 0])
  have HC := Lib.hid (hc.up hb0)
  have hws : (w.alloc (.cells #[.string ⟨#[]⟩, .slice none 0 0] 27)).heap.size = w.heap.size + 1 := by simp
  have HB0 := Lib.hid hb0
  clear hc hb0
  go_enter Try.func73, Try.ntmps73
  go_wp2_with fail
  generalize (w.alloc (.cells #[.string ⟨#[]⟩, .slice none 0 0] 27)) = W at *
  refine (cRel HC.out).mono ?_
  rintro e w1 ⟨r, n, rfl, hr, hn, hd⟩
  have HR := Lib.hid hr
  have hsz1 := hd.2.size
  have KR1 := Lib.hid ((KR.out.dr_ hd (by omega)).alloc (.cells #[.string r, .slice none 0 0] 27))
  have HD1 := Lib.hid ((Dr.pre HB0.out hd).up (Up.al1 w1 (.cells #[.string r, .slice none 0 0] 27)))
  have HK1 := Lib.hid (Blk.new w1 27 #[.string r, .slice none 0 0])
  have hz1w : (w1.alloc (.cells #[.string r, .slice none 0 0] 27)).heap.size = w1.heap.size + 1 := by simp
  clear hr hd KR HC HB0
  go_wp2_with fail
  generalize (w1.alloc (.cells #[.string r, .slice none 0 0] 27)) = W2 at *
  generalize hp : w1.heap.size = p at *
  have hwp : w.heap.size < p := by omega
  go_loopw [6] (fun i wr => ∃ (k : Nat) (av : Value) (M : List ByteArray), k ≤ n ∧ i = .int .i64 k ∧ M.length = k ∧ Hid (∀ s ∈ M, okW s = true) ∧ p < wr.heap.size ∧ Hid (Dr 83 g w wr) ∧ Hid (Blk wr w.heap.size 27 #[.string ⟨#[]⟩, .slice none 0 0]) ∧ Hid (Blk wr p 27 #[.string r, av]) ∧ Hid (TO 9 wr (p + 1) wr.heap.size av M)) (fun i _ => n - (intOf i).toNat)
  case atStart =>
    have h0 : Hid (∀ s ∈ ([] : List ByteArray), okW s = true) := fun s h => by cases h
    exact ⟨0, .slice none 0 0, [], Nat.zero_le _, rfl, rfl, h0, by omega, HD1.out, KR1.out, HK1.out, TO.nil_ _ _ _ _⟩
  case round =>
    clear HD1 KR1 HK1 hz1w
    obtain ⟨k, av, M, hk, rfl, hM, HM, hps, HD, KR, HK, HTO⟩ := hrel
    have i1 : (0 : Int) ≤ (k : Int) := by omega
    by_cases hlt : k < n
    · have i2 : (k : Int) < (n : Int) := by omega
      have k1 : wr.cell? ⟨p, 1, none⟩ = some av := HK.out.cell 1
      have hdr0 : Up wr wr.drew := (Up.rf _).dr
      go_wp2_with fail
      have k1d : wr.drew.cell? ⟨p, 1, none⟩ = some av := (HK.out.up hdr0).cell 1
      have HCr := Lib.hid (HD.out.1.up hdr0)
      go_region_law
        (first
          | (refine step_append_lies _ (by rfl) _ _ _ (by rfl) (p + 1) 9 i0 _ 1 16 Try.underlying22 hi0 hz0 hz1 hz2 ?_ ?_ av M.length (M.map Value.string) ?_ (HTO5.out.1.1.alloc _) ⟨w5.heap.size, 0, none⟩ 1 1 [.string s] ?_ ?_ ?_ ?_ ?_ ?_ ?_ ?_ (w5.heap.size + 1) ?_ ?_
             · rfl
             · omega
             · rfl
             · rfl
             · rfl
             · exact (news1 (Blk.new w5 9 #[.string s]))
             · exact (one1 rfl)
             · omega
             · unfold maxLen; omega
             · omega
             · simp; omega
             · simp
             intro gg cp w6 hown' hgrow hat hltg
             have hrow : ∀ b, av.ownBlock = some b → p + 1 ≤ b := (fun b hb => (HTO5.out.1.1.lt b hb).1)
             have hnp : ∀ b, b ≤ p → some b ≠ av.ownBlock := (fun b hb h => by have := hrow b h.symm; omega)
             have hal : Up w5 (w5.alloc (.cells #[.string s] 9)) := Up.al1 _ _
             have HK6 : Hid (Blk w6 p 27 #[.string r, av]) := ((hgrow.block p (HK5.out.up hal).lt (hnp p (Nat.le_refl _))).trans (HK5.out.up hal))
             have KR6 : Hid (Blk w6 w.heap.size 27 #[.string ⟨#[]⟩, .slice none 0 0]) := ((hgrow.block w.heap.size (KR5.out.up hal).lt (hnp _ (by omega))).trans (KR5.out.up hal))
             have HTO6 : Hid (TO 9 w6 (p + 1) w6.heap.size (.slice (some ⟨gg, 0, none⟩) (M.length + 1) cp) (M ++ [s])) := TO.snoc hown'
             have HD6 : Hid (Dr 83 g w w6) := HD5.out.own (((Below.refl w.heap.size w5).alloc (by omega) _).grown hgrow (by simp; omega) (fun b hb => by have := hrow b hb; omega)) hgl
             have hs6 : w5.heap.size + 1 ≤ w6.heap.size := (by have := hgrow.size; simpa using this)
             have k1 : w6.cell? ⟨p, 1, none⟩ = some av := HK6.out.cell 1
             have f1 := HK6.out.frozen 1
             clear hown' hgrow hat hltg hrow hnp hal)
          | (go_simp; go_at_call 88; (with_reducible refine (cTerm HCr.out).mono ?_); rintro e w5 ⟨s, rfl, hs, hd5⟩; have hdr := Dr.pre hdr0 hd5; have HS := Lib.hid hs; have HK5 := Lib.hid (HK.out.dr_ hdr (by omega)); have KR5 := Lib.hid (KR.out.dr_ hdr (by omega)); have HTO5 := Lib.hid ((show Ob (TO 9) wr (p + 1) wr.heap.size av M from ⟨HTO.out, Nat.le_refl _⟩).dr_ hdr (.inr (by omega))); have HD5 := Lib.hid (HD.out.tr hdr); have h5s : wr.heap.size ≤ w5.heap.size := hdr.2.size; have k1 : w5.cell? ⟨p, 1, none⟩ = some av := HK5.out.cell 1; have k1a : (w5.alloc (.cells #[.string s] 9)).cell? ⟨p, 1, none⟩ = some av := (HK5.out.alloc _).cell 1; clear hd5 hdr hs))
      all_goals
        go_wp2
        clear k1 f1
        have hT6 := HTO6.out
        rw [hM] at hT6
        have hK7 : Blk (w6.setCell ⟨p, 1, none⟩ (.slice (some ⟨gg, 0, none⟩) (k + 1) cp)) p 27 #[.string r, .slice (some ⟨gg, 0, none⟩) (k + 1) cp] := by have := HK6.out.set_ 1 (.slice (some ⟨gg, 0, none⟩) (k + 1) cp); simpa using this
        have hR7 : Blk (w6.setCell ⟨p, 1, none⟩ (.slice (some ⟨gg, 0, none⟩) (k + 1) cp)) w.heap.size 27 #[.string ⟨#[]⟩, .slice none 0 0] := KR6.out.far (p := ⟨p, 1, none⟩) (by show w.heap.size ≠ p; omega) _
        have hD7 : Dr 83 g w (w6.setCell ⟨p, 1, none⟩ (.slice (some ⟨gg, 0, none⟩) (k + 1) cp)) := HD6.out.own ((Below.refl w.heap.size w6).setCell (p := ⟨p, 1, none⟩) (by show w.heap.size ≤ p; omega) _) hgl
        have hz7 : w6.heap.size = (w6.setCell ⟨p, 1, none⟩ (.slice (some ⟨gg, 0, none⟩) (k + 1) cp)).heap.size := by simp [World.setCell]
        have hT7 := (hT6.keep ((Stays.refl w6 (p + 1) w6.heap.size).setCell (p := ⟨p, 1, none⟩) (.inl (by simp)) (.slice (some ⟨gg, 0, none⟩) (k + 1) cp))).mono (Nat.le_refl _) (Nat.le_of_eq hz7)
        have hM7 : ∀ t ∈ M ++ [s], okW t = true := fun t ht => by
          rcases List.mem_append.1 ht with ht | ht
          · exact HM.out t ht
          · simp at ht; subst ht; exact HS.out
        exact ⟨⟨k + 1, _, M ++ [s], by omega, by go_num, by simp; omega, hM7, by omega, hD7, hR7, hK7, hT7⟩, by simp [intOf]; omega⟩
    · have i2 : ¬ (k : Int) < (n : Int) := by omega
      obtain ⟨oa, oc, e6⟩ := HTO.out.tx.form
      rw [hM] at e6
      subst e6
      have g0 : wr.cell? ⟨p, 0, none⟩ = some (.string r) := HK.out.cell 0
      have g1 : wr.cell? ⟨p, 1, none⟩ = some (.slice oa k oc) := HK.out.cell 1
      have r0 : wr.cell? ⟨w.heap.size, 0, none⟩ = some (.string ⟨#[]⟩) := KR.out.cell 0
      have r1 : wr.cell? ⟨w.heap.size, 1, none⟩ = some (.slice none 0 0) := KR.out.cell 1
      have q0 := KR.out.frozen 0
      have q1 := KR.out.frozen 1
      go_wp2
      clear g0 g1 r0 r1 q0 q1
      have hK9 : Blk ((wr.setCell ⟨w.heap.size, 0, none⟩ (.string r)).setCell ⟨w.heap.size, 1, none⟩ (.slice oa k oc)) w.heap.size 27 #[.string r, .slice oa k oc] := by have := (KR.out.set_ 0 (.string r)).set_ 1 (.slice oa k oc); simpa using this
      have hD9 : Dr 83 g w ((wr.setCell ⟨w.heap.size, 0, none⟩ (.string r)).setCell ⟨w.heap.size, 1, none⟩ (.slice oa k oc)) := HD.out.own (((Below.refl w.heap.size wr).setCell (p := ⟨w.heap.size, 0, none⟩) (Nat.le_refl _) _).setCell (p := ⟨w.heap.size, 1, none⟩) (Nat.le_refl _) _) hgl
      have hz9 : wr.heap.size = ((wr.setCell ⟨w.heap.size, 0, none⟩ (.string r)).setCell ⟨w.heap.size, 1, none⟩ (.slice oa k oc)).heap.size := by simp [World.setCell]
      have hT9 := (HTO.out.keep (((Stays.refl wr (p + 1) wr.heap.size).setCell (p := ⟨w.heap.size, 0, none⟩) (.inl (by show w.heap.size < p + 1; omega)) (.string r)).setCell (p := ⟨w.heap.size, 1, none⟩) (.inl (by show w.heap.size < p + 1; omega)) (.slice oa k oc))).mono (show w.heap.size ≤ p + 1 by omega) (Nat.le_of_eq hz9)
      generalize ((wr.setCell ⟨w.heap.size, 0, none⟩ (.string r)).setCell ⟨w.heap.size, 1, none⟩ (.slice oa k oc)) = W9 at *
      have e0 := hK9.cell0; have e1 := hK9.cell1
      refine bodyPost_ret (v := .agg #[.string r, .slice oa k oc]) (by simp [results, Try.results73, go_sem, e0, e1]) rfl ?_
      exact ⟨_, rfl, ⟨r, M⟩, ⟨⟨_, by show Value.agg _ = Value.agg #[.string r, .slice oa k oc]; rfl, hT9⟩, Nat.le_refl _⟩, ⟨HR.out, HM.out, by show M.length ≤ 5; omega⟩, by show M.length ≤ 2; omega, hD9⟩
end Go.Proofs.Ytpkphijfncbbiaa
