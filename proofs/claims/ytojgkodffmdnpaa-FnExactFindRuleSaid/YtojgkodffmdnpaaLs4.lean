/- The laws' copy of a list of rules. -/
import Derived.Test.YtojgkodffmdnpaaLs3
namespace Go.Proofs.Ytojgkodffmdnpaa
open Go.RowKit
attribute [local go_sem ↓] Go.wp_at_zero Go.wp_at_succ
set_option linter.unusedVariables false
theorem RuleC.mono {w : World} {lo hi lo' hi' : Nat} {cs : List Value} {x : RuleV} (h : RuleC w lo hi cs x) (h1 : lo' ≤ lo) (h2 : hi ≤ hi') : RuleC w lo' hi' cs x := by
  obtain ⟨iv, tv, e, hi, ht⟩ := h; exact ⟨iv, tv, e, slc_mono hi h1 h2, sla_mono ht h1 h2⟩
theorem Try.infoRule : (Try.prog.info? 58).map (fun i => (i.zero, i.size, i.bytes)) = some (some (.agg #[.string ByteArray.empty, .int .i64 0, .slice none 0 0, .slice none 0 0]), 4, 72) := by kernel_rfl
theorem rule_set {xs : List Value} {k : Nat} (y0 y1 y2 y3 : Value) (h : k * 4 + 4 ≤ xs.length) :
    (∀ m, m < k * 4 → ((((xs.set (k * 4) y0).set (k * 4 + 1) y1).set (k * 4 + 2) y2).set (k * 4 + 3) y3)[m]? = xs[m]?) ∧ ∀ j, j < 4 → ((((xs.set (k * 4) y0).set (k * 4 + 1) y1).set (k * 4 + 2) y2).set (k * 4 + 3) y3)[k * 4 + j]? = [y0, y1, y2, y3][j]? := by
  refine ⟨fun m hm => ?_, fun j hj => ?_⟩
  · repeat rw [List.getElem?_set_ne (by omega)]
  · obtain rfl | rfl | rfl | rfl : j = 0 ∨ j = 1 ∨ j = 2 ∨ j = 3 := by omega
    all_goals
      repeat rw [List.getElem?_set_ne (by omega)]
      first | (rw [Nat.add_zero, List.getElem?_set_self (by first | omega | (simp only [List.length_set]; omega))]; rfl) | (rw [List.getElem?_set_self (by first | omega | (simp only [List.length_set]; omega))]; rfl)
set_option maxHeartbeats 2000000 in
theorem cto_rules {v : Value} {x : List RuleV} {lo hi : Nat} {w : World} (h : Ob (SL RuleC 4) w lo hi v x) (hz : rlsz x ≤ 1048576) :
    Calls Try.prog 43 #[v] w fun e w' => ∃ v', e = .returned v' ∧ Ob (SL RuleC 4) w' w.heap.size w'.heap.size v' x ∧ Up w w' := by
  have hlen := h.1.len
  obtain ⟨a, cap, rfl⟩ := h.1.form
  have HV := Lib.hid h
  clear h
  have hx : x.length ≤ 1048576 := by unfold rlsz at hz; omega
  have HM : Hid (∀ f ∈ x, rsz f ≤ 1048576) := fun f hf => by have := rlsum_mem hf; unfold rlsz at hz; omega
  clear hz
  obtain ⟨i0, hi0, hz0, hz1, hz2⟩ := info_parts Try.infoRule
  go_enter Try.func43, Try.ntmps43
  go_wp2_with (at_make; refine wpList_make_full _ rfl _ _ 74 rfl w.heap.size 58 i0 _ 4 Try.underlying74 hi0 hz0 hz1 .i64 .i64 _ _ x.length rfl rfl rfl rfl (by rw [hz2]; omega) (by unfold maxLen; omega) (Nat.le_refl _) ?_; intro w1 hown hgrow)
  have hbel : Below w.heap.size w w1 := (Below.refl _ _).grown hgrow (Nat.le_refl _) (by simp)
  clear hgrow
  generalize hG : w.heap.size = G at *
  have HG := Lib.hid hG; clear hG
  go_loopw [4] (fun i wr => ∃ (k : Nat), k ≤ x.length ∧ i = .int .i64 k ∧ Below G w wr ∧ G < wr.heap.size ∧ ∃ xs, wr.ownsRow G 58 4 (.slice (some ⟨G, 0, none⟩) x.length x.length) x.length xs ∧ Hid (Fil RuleC 4 wr (G + 1) wr.heap.size xs (x.take k))) (fun i _ => x.length - (intOf i).toNat)
  case atStart => exact ⟨0, Nat.zero_le _, rfl, hbel, (hown.lt G rfl).2, _, hown, Fil.nil⟩
  case round =>
    clear hown hbel
    obtain ⟨k, hk, rfl, hb, hGs, xs, hown, hfr⟩ := hrel
    by_cases hlt : k < x.length
    · have hbu : Up w wr := by show Below w.heap.size w wr; rw [HG.out]; exact hb
      obtain ⟨b, off, p, cp, r, cr, rfl, c0, c1, c2, c3, hA⟩ := SRu.at (HV.out.up hbu).1 hlt
      have HO : Hid (Ob AR wr lo hi (.agg #[.string x[k].name, .int .i64 x[k].prio, .slice p x[k].ifs.length cp, .slice r x[k].thens.length cr]) x[k]) := ⟨hA, Nat.le_trans HV.out.2 hbu.size⟩
      clear hA hbu
      have i1 : (0 : Int) ≤ (k : Int) := by omega
      have i2 : (k : Int) < (x.length : Int) := by omega
      go_wp2_with fail
      clear c0 c1 c2 c3
      refine (cto_rule HO.out (HM.out _ (List.getElem_mem hlt))).mono ?_
      rintro e w2 ⟨v2, rfl, hv2, b2⟩
      obtain ⟨ja, jc, ua, uc, rfl, hji, hjt⟩ := AR.parts hv2
      have hown2 := owns_below hown b2
      have hb2 : Below G w w2 := hb.trans (b2.mono (by omega))
      have hG2 : G < w2.heap.size := Nat.lt_of_lt_of_le hGs b2.size
      obtain ⟨y0, c0⟩ := ownsRow_ex hown2 (k * 4) (by omega)
      have f0 := hown2.frozenAt (k * 4)
      obtain ⟨y1, c1⟩ := ownsRow_ex hown2 (k * 4 + 1) (by omega)
      have f1 := hown2.frozenAt (k * 4 + 1)
      obtain ⟨y2, c2⟩ := ownsRow_ex hown2 (k * 4 + 2) (by omega)
      have f2 := hown2.frozenAt (k * 4 + 2)
      obtain ⟨y3, c3⟩ := ownsRow_ex hown2 (k * 4 + 3) (by omega)
      have f3 := hown2.frozenAt (k * 4 + 3)
      have hl := hown2.1
      have HS := Lib.hid ((((hown2.stored (k * 4) (.string x[k].name)).1.stored (k * 4 + 1) (.int .i64 x[k].prio)).1.stored (k * 4 + 2) (.slice ja x[k].ifs.length jc)).1.stored (k * 4 + 3) (.slice ua x[k].thens.length uc)).1
      have HX := Lib.hid (rule_set (xs := xs) (k := k) (.string x[k].name) (.int .i64 x[k].prio) (.slice ja x[k].ifs.length jc) (.slice ua x[k].thens.length uc) (by omega))
      have hkl : (x.take k).length = k := by simp; omega
      have HR : Hid (Fil RuleC 4 w2 (G + 1) w2.heap.size ((((xs.set (k * 4) (.string x[k].name)).set (k * 4 + 1) (.int .i64 x[k].prio)).set (k * 4 + 2) (.slice ja x[k].ifs.length jc)).set (k * 4 + 3) (.slice ua x[k].thens.length uc)) (x.take (k + 1))) := by
        show Fil _ _ _ _ _ _ _
        rw [List.take_succ_eq_append_getElem hlt]
        refine Fil.snoc (cs := [.string x[k].name, .int .i64 x[k].prio, .slice ja x[k].ifs.length jc, .slice ua x[k].thens.length uc]) (hfr.out.imp fun cs a hr => ?_) (fun m hm => HX.out.1 m (by rw [hkl] at hm; exact hm)) rfl (fun j hj => by rw [hkl]; exact HX.out.2 j hj) ⟨_, _, rfl, slc_mono hji.1 (by omega) (Nat.le_refl _), sla_mono hjt.1 (by omega) (Nat.le_refl _)⟩
        exact RuleC.mono (hr.keep (Stays.of_below b2 (Nat.le_refl _))) (Nat.le_refl _) b2.size
      clear hown2 hown hl b2 hb hGs hfr hji hjt hv2 HX hkl
      go_wp2
      refine ⟨⟨k+1, by omega, by go_num, ((((hb2.setCell (p := ⟨G, k * 4, none⟩) (Nat.le_refl _) _).setCell (p := ⟨G, k * 4 + 1, none⟩) (Nat.le_refl _) _).setCell (p := ⟨G, k * 4 + 2, none⟩) (Nat.le_refl _) _).setCell (p := ⟨G, k * 4 + 3, none⟩) (Nat.le_refl _) _), by simpa [World.setCell] using hG2, _, HS.out, ?_⟩, by simp [intOf]; omega⟩
      have hs := (((((Stays.refl w2 (G + 1) w2.heap.size).setCell (p := ⟨G, k * 4, none⟩) (.inl (by simp)) (.string x[k].name)).setCell (p := ⟨G, k * 4 + 1, none⟩) (.inl (by simp)) (.int .i64 x[k].prio)).setCell (p := ⟨G, k * 4 + 2, none⟩) (.inl (by simp)) (.slice ja x[k].ifs.length jc)).setCell (p := ⟨G, k * 4 + 3, none⟩) (.inl (by simp)) (.slice ua x[k].thens.length uc))
      exact HR.out.imp fun cs a hr => RuleC.mono (hr.keep hs) (Nat.le_refl _) (Nat.le_of_eq (by simp [World.setCell]))
    · go_wp2
      go_ret
      obtain rfl : k = x.length := by omega
      have hfr' := hfr.out
      rw [List.take_of_length_le (Nat.le_refl _)] at hfr'
      have hg := HG.out
      subst hg
      exact ⟨_, rfl, ⟨Fil.sl (hfr'.imp fun cs a hr => RuleC.mono hr (by omega) (Nat.le_refl _)) hown (fun g hg => (hown.lt g hg).2), Nat.le_refl _⟩, hb⟩
end Go.Proofs.Ytojgkodffmdnpaa
