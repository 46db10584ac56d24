/- The laws' copies of lists of conditions and of actions. -/
import Derived.Test.YtojgkodffmdnpaaLs
namespace Go.Proofs.Ytojgkodffmdnpaa
open Go.RowKit
attribute [local go_sem ↓] Go.wp_at_zero Go.wp_at_succ
set_option linter.unusedVariables false
theorem CondC.mono {w : World} {lo hi lo' hi' : Nat} {cs : List Value} {x : CondV} (h : CondC w lo hi cs x) (h1 : lo' ≤ lo) (h2 : hi ≤ hi') : CondC w lo' hi' cs x := by obtain ⟨av, e, ht⟩ := h; exact ⟨av, e, ht.mono h1 h2⟩
theorem ActC.mono {w : World} {lo hi lo' hi' : Nat} {cs : List Value} {x : ActV} (h : ActC w lo hi cs x) (h1 : lo' ≤ lo) (h2 : hi ≤ hi') : ActC w lo' hi' cs x := by obtain ⟨av, e, ht⟩ := h; exact ⟨av, e, ht.mono h1 h2⟩
theorem Try.infoCond : (Try.prog.info? 32).map (fun i => (i.zero, i.size, i.bytes)) = some (some (.agg #[.int .i64 0, .string ByteArray.empty, .slice none 0 0, .string ByteArray.empty, .string ByteArray.empty]), 5, 80) := by kernel_rfl
theorem cond_set {xs : List Value} {k : Nat} (y0 y1 y2 y3 y4 : Value) (h : k * 5 + 5 ≤ xs.length) :
    (∀ m, m < k * 5 → (((((xs.set (k * 5) y0).set (k * 5 + 1) y1).set (k * 5 + 2) y2).set (k * 5 + 3) y3).set (k * 5 + 4) y4)[m]? = xs[m]?) ∧ ∀ j, j < 5 → (((((xs.set (k * 5) y0).set (k * 5 + 1) y1).set (k * 5 + 2) y2).set (k * 5 + 3) y3).set (k * 5 + 4) y4)[k * 5 + j]? = [y0, y1, y2, y3, y4][j]? := by
  refine ⟨fun m hm => ?_, fun j hj => ?_⟩
  · repeat rw [List.getElem?_set_ne (by omega)]
  · obtain rfl | rfl | rfl | rfl | rfl : j = 0 ∨ j = 1 ∨ j = 2 ∨ j = 3 ∨ j = 4 := by omega
    all_goals
      repeat rw [List.getElem?_set_ne (by omega)]
      first | (rw [Nat.add_zero, List.getElem?_set_self (by first | omega | (simp only [List.length_set]; omega))]; rfl) | (rw [List.getElem?_set_self (by first | omega | (simp only [List.length_set]; omega))]; rfl)
set_option maxHeartbeats 2000000 in
theorem cto_conds {v : Value} {x : List CondV} {lo hi : Nat} {w : World} (h : Ob (SL CondC 5) w lo hi v x) (hz : cssz x ≤ 1048576) :
    Calls Try.prog 91 #[v] w fun e w' => ∃ v', e = .returned v' ∧ Ob (SL CondC 5) w' w.heap.size w'.heap.size v' x ∧ Up w w' := by
  have hlen := h.1.len
  obtain ⟨a, cap, rfl⟩ := h.1.form
  have HV := Lib.hid h
  clear h
  have hx : x.length ≤ 1048576 := by unfold cssz at hz; omega
  have HM : Hid (∀ f ∈ x, csz f ≤ 1048576) := fun f hf => by have := csum_mem hf; unfold cssz at hz; omega
  clear hz
  obtain ⟨i0, hi0, hz0, hz1, hz2⟩ := info_parts Try.infoCond
  go_enter Try.func91, Try.ntmps91
  go_wp2_with (at_make; refine wpList_make_full _ rfl _ _ 55 rfl w.heap.size 32 i0 _ 5 Try.underlying55 hi0 hz0 hz1 .i64 .i64 _ _ x.length rfl rfl rfl rfl (by rw [hz2]; omega) (by unfold maxLen; omega) (Nat.le_refl _) ?_; intro w1 hown hgrow)
  have hbel : Below w.heap.size w w1 := (Below.refl _ _).grown hgrow (Nat.le_refl _) (by simp)
  clear hgrow
  generalize hG : w.heap.size = G at *
  have HG := Lib.hid hG; clear hG
  go_loopw [4] (fun i wr => ∃ (k : Nat), k ≤ x.length ∧ i = .int .i64 k ∧ Below G w wr ∧ G < wr.heap.size ∧ ∃ xs, wr.ownsRow G 32 5 (.slice (some ⟨G, 0, none⟩) x.length x.length) x.length xs ∧ Hid (Fil CondC 5 wr (G + 1) wr.heap.size xs (x.take k))) (fun i _ => x.length - (intOf i).toNat)
  case atStart => exact ⟨0, Nat.zero_le _, rfl, hbel, (hown.lt G rfl).2, _, hown, Fil.nil⟩
  case round =>
    clear hown hbel
    obtain ⟨k, hk, rfl, hb, hGs, xs, hown, hfr⟩ := hrel
    by_cases hlt : k < x.length
    · have hbu : Up w wr := by show Below w.heap.size w wr; rw [HG.out]; exact hb
      obtain ⟨b, off, d, c, rfl, c0, c1, c2, c3, c4, hA⟩ := SC.at (HV.out.up hbu).1 hlt
      have HO : Hid (Ob AC wr lo hi (.agg #[.int .i64 x[k].kind, .string x[k].pat.rel, (.slice d x[k].pat.args.length c), .string x[k].left, .string x[k].right]) x[k]) := ⟨hA, Nat.le_trans HV.out.2 hbu.size⟩
      clear hA hbu
      have i1 : (0 : Int) ≤ (k : Int) := by omega
      have i2 : (k : Int) < (x.length : Int) := by omega
      go_wp2_with fail
      clear c0 c1 c2 c3 c4
      refine (cto_cond HO.out (HM.out _ (List.getElem_mem hlt))).mono ?_
      rintro e w2 ⟨v2, rfl, hv2, b2⟩
      obtain ⟨av, rfl, hav⟩ := hv2.1
      obtain ⟨a1, cap1, e1⟩ := hav.tx.form
      have HE1 := Lib.hid e1
      have hown2 := owns_below hown b2
      have hb2 : Below G w w2 := hb.trans (b2.mono (by omega))
      have hG2 : G < w2.heap.size := Nat.lt_of_lt_of_le hGs b2.size
      obtain ⟨y0, c0⟩ := ownsRow_ex hown2 (k * 5) (by omega)
      have f0 := hown2.frozenAt (k * 5)
      obtain ⟨y1, c1⟩ := ownsRow_ex hown2 (k * 5 + 1) (by omega)
      have f1 := hown2.frozenAt (k * 5 + 1)
      obtain ⟨y2, c2⟩ := ownsRow_ex hown2 (k * 5 + 2) (by omega)
      have f2 := hown2.frozenAt (k * 5 + 2)
      obtain ⟨y3, c3⟩ := ownsRow_ex hown2 (k * 5 + 3) (by omega)
      have f3 := hown2.frozenAt (k * 5 + 3)
      obtain ⟨y4, c4⟩ := ownsRow_ex hown2 (k * 5 + 4) (by omega)
      have f4 := hown2.frozenAt (k * 5 + 4)
      have hl := hown2.1
      have HS := Lib.hid (((((hown2.stored (k * 5) (.int .i64 x[k].kind)).1.stored (k * 5 + 1) (.string x[k].pat.rel)).1.stored (k * 5 + 2) (av)).1.stored (k * 5 + 3) (.string x[k].left)).1.stored (k * 5 + 4) (.string x[k].right)).1
      have HX := Lib.hid (cond_set (xs := xs) (k := k) (.int .i64 x[k].kind) (.string x[k].pat.rel) (av) (.string x[k].left) (.string x[k].right) (by omega))
      have hkl : (x.take k).length = k := by simp; omega
      have HR : Hid (Fil CondC 5 w2 (G + 1) w2.heap.size (((((xs.set (k * 5) (.int .i64 x[k].kind)).set (k * 5 + 1) (.string x[k].pat.rel)).set (k * 5 + 2) (av)).set (k * 5 + 3) (.string x[k].left)).set (k * 5 + 4) (.string x[k].right)) (x.take (k + 1))) := by
        show Fil _ _ _ _ _ _ _
        rw [List.take_succ_eq_append_getElem hlt]
        refine Fil.snoc (cs := [.int .i64 x[k].kind, .string x[k].pat.rel, av, .string x[k].left, .string x[k].right]) (hfr.out.imp fun cs a hr => ?_) (fun m hm => HX.out.1 m (by rw [hkl] at hm; exact hm)) rfl (fun j hj => by rw [hkl]; exact HX.out.2 j hj) ⟨av, rfl, hav.tx.mono (by omega) (Nat.le_refl _)⟩
        exact CondC.mono (hr.keep (Stays.of_below b2 (Nat.le_refl _))) (Nat.le_refl _) b2.size
      clear hown2 hown hl b2 hb hGs hfr hav hv2 e1 HX hkl
      have e1 := HE1.out
      clear HE1
      subst e1
      go_wp2
      refine ⟨⟨k+1, by omega, by go_num, (((((hb2.setCell (p := ⟨G, k * 5, none⟩) (Nat.le_refl _) _).setCell (p := ⟨G, k * 5 + 1, none⟩) (Nat.le_refl _) _).setCell (p := ⟨G, k * 5 + 2, none⟩) (Nat.le_refl _) _).setCell (p := ⟨G, k * 5 + 3, none⟩) (Nat.le_refl _) _).setCell (p := ⟨G, k * 5 + 4, none⟩) (Nat.le_refl _) _), by simpa [World.setCell] using hG2, _, HS.out, ?_⟩, by simp [intOf]; omega⟩
      have hs := ((((((Stays.refl w2 (G + 1) w2.heap.size).setCell (p := ⟨G, k * 5, none⟩) (.inl (by simp)) (.int .i64 x[k].kind)).setCell (p := ⟨G, k * 5 + 1, none⟩) (.inl (by simp)) (.string x[k].pat.rel)).setCell (p := ⟨G, k * 5 + 2, none⟩) (.inl (by simp)) ((.slice a1 x[k].pat.args.length cap1))).setCell (p := ⟨G, k * 5 + 3, none⟩) (.inl (by simp)) (.string x[k].left)).setCell (p := ⟨G, k * 5 + 4, none⟩) (.inl (by simp)) (.string x[k].right))
      exact HR.out.imp fun cs a hr => CondC.mono (hr.keep hs) (Nat.le_refl _) (Nat.le_of_eq (by simp [World.setCell]))
    · go_wp2
      go_ret
      obtain rfl : k = x.length := by omega
      have hfr' := hfr.out
      rw [List.take_of_length_le (Nat.le_refl _)] at hfr'
      have hg := HG.out
      subst hg
      exact ⟨_, rfl, ⟨Fil.sl (hfr'.imp fun cs a hr => CondC.mono hr (by omega) (Nat.le_refl _)) hown (fun g hg => (hown.lt g hg).2), Nat.le_refl _⟩, hb⟩
theorem Try.infoAction : (Try.prog.info? 67).map (fun i => (i.zero, i.size, i.bytes)) = some (some (.agg #[.int .i64 0, .string ByteArray.empty, .slice none 0 0]), 3, 48) := by kernel_rfl
theorem act_set {xs : List Value} {k : Nat} (y0 y1 y2 : Value) (h : k * 3 + 3 ≤ xs.length) :
    (∀ m, m < k * 3 → (((xs.set (k * 3) y0).set (k * 3 + 1) y1).set (k * 3 + 2) y2)[m]? = xs[m]?) ∧ ∀ j, j < 3 → (((xs.set (k * 3) y0).set (k * 3 + 1) y1).set (k * 3 + 2) y2)[k * 3 + j]? = [y0, y1, y2][j]? := by
  refine ⟨fun m hm => ?_, fun j hj => ?_⟩
  · repeat rw [List.getElem?_set_ne (by omega)]
  · obtain rfl | rfl | rfl : j = 0 ∨ j = 1 ∨ j = 2 := by omega
    all_goals
      repeat rw [List.getElem?_set_ne (by omega)]
      first | (rw [Nat.add_zero, List.getElem?_set_self (by first | omega | (simp only [List.length_set]; omega))]; rfl) | (rw [List.getElem?_set_self (by first | omega | (simp only [List.length_set]; omega))]; rfl)
set_option maxHeartbeats 2000000 in
theorem cto_acts {v : Value} {x : List ActV} {lo hi : Nat} {w : World} (h : Ob (SL ActC 3) w lo hi v x) (hz : assz x ≤ 1048576) :
    Calls Try.prog 92 #[v] w fun e w' => ∃ v', e = .returned v' ∧ Ob (SL ActC 3) w' w.heap.size w'.heap.size v' x ∧ Up w w' := by
  have hlen := h.1.len
  obtain ⟨a, cap, rfl⟩ := h.1.form
  have HV := Lib.hid h
  clear h
  have hx : x.length ≤ 1048576 := by unfold assz at hz; omega
  have HM : Hid (∀ f ∈ x, asz f ≤ 1048576) := fun f hf => by have := asum_mem hf; unfold assz at hz; omega
  clear hz
  obtain ⟨i0, hi0, hz0, hz1, hz2⟩ := info_parts Try.infoAction
  go_enter Try.func92, Try.ntmps92
  go_wp2_with (at_make; refine wpList_make_full _ rfl _ _ 56 rfl w.heap.size 67 i0 _ 3 Try.underlying56 hi0 hz0 hz1 .i64 .i64 _ _ x.length rfl rfl rfl rfl (by rw [hz2]; omega) (by unfold maxLen; omega) (Nat.le_refl _) ?_; intro w1 hown hgrow)
  have hbel : Below w.heap.size w w1 := (Below.refl _ _).grown hgrow (Nat.le_refl _) (by simp)
  clear hgrow
  generalize hG : w.heap.size = G at *
  have HG := Lib.hid hG; clear hG
  go_loopw [4] (fun i wr => ∃ (k : Nat), k ≤ x.length ∧ i = .int .i64 k ∧ Below G w wr ∧ G < wr.heap.size ∧ ∃ xs, wr.ownsRow G 67 3 (.slice (some ⟨G, 0, none⟩) x.length x.length) x.length xs ∧ Hid (Fil ActC 3 wr (G + 1) wr.heap.size xs (x.take k))) (fun i _ => x.length - (intOf i).toNat)
  case atStart => exact ⟨0, Nat.zero_le _, rfl, hbel, (hown.lt G rfl).2, _, hown, Fil.nil⟩
  case round =>
    clear hown hbel
    obtain ⟨k, hk, rfl, hb, hGs, xs, hown, hfr⟩ := hrel
    by_cases hlt : k < x.length
    · have hbu : Up w wr := by show Below w.heap.size w wr; rw [HG.out]; exact hb
      obtain ⟨b, off, d, c, rfl, c0, c1, c2, hA⟩ := SA.at (HV.out.up hbu).1 hlt
      have HO : Hid (Ob AA wr lo hi (.agg #[.int .i64 x[k].kind, .string x[k].pat.rel, (.slice d x[k].pat.args.length c)]) x[k]) := ⟨hA, Nat.le_trans HV.out.2 hbu.size⟩
      clear hA hbu
      have i1 : (0 : Int) ≤ (k : Int) := by omega
      have i2 : (k : Int) < (x.length : Int) := by omega
      go_wp2_with fail
      clear c0 c1 c2
      refine (cto_act HO.out (HM.out _ (List.getElem_mem hlt))).mono ?_
      rintro e w2 ⟨v2, rfl, hv2, b2⟩
      obtain ⟨av, rfl, hav⟩ := hv2.1
      obtain ⟨a1, cap1, e1⟩ := hav.tx.form
      have HE1 := Lib.hid e1
      have hown2 := owns_below hown b2
      have hb2 : Below G w w2 := hb.trans (b2.mono (by omega))
      have hG2 : G < w2.heap.size := Nat.lt_of_lt_of_le hGs b2.size
      obtain ⟨y0, c0⟩ := ownsRow_ex hown2 (k * 3) (by omega)
      have f0 := hown2.frozenAt (k * 3)
      obtain ⟨y1, c1⟩ := ownsRow_ex hown2 (k * 3 + 1) (by omega)
      have f1 := hown2.frozenAt (k * 3 + 1)
      obtain ⟨y2, c2⟩ := ownsRow_ex hown2 (k * 3 + 2) (by omega)
      have f2 := hown2.frozenAt (k * 3 + 2)
      have hl := hown2.1
      have HS := Lib.hid (((hown2.stored (k * 3) (.int .i64 x[k].kind)).1.stored (k * 3 + 1) (.string x[k].pat.rel)).1.stored (k * 3 + 2) (av)).1
      have HX := Lib.hid (act_set (xs := xs) (k := k) (.int .i64 x[k].kind) (.string x[k].pat.rel) (av) (by omega))
      have hkl : (x.take k).length = k := by simp; omega
      have HR : Hid (Fil ActC 3 w2 (G + 1) w2.heap.size (((xs.set (k * 3) (.int .i64 x[k].kind)).set (k * 3 + 1) (.string x[k].pat.rel)).set (k * 3 + 2) (av)) (x.take (k + 1))) := by
        show Fil _ _ _ _ _ _ _
        rw [List.take_succ_eq_append_getElem hlt]
        refine Fil.snoc (cs := [.int .i64 x[k].kind, .string x[k].pat.rel, av]) (hfr.out.imp fun cs a hr => ?_) (fun m hm => HX.out.1 m (by rw [hkl] at hm; exact hm)) rfl (fun j hj => by rw [hkl]; exact HX.out.2 j hj) ⟨av, rfl, hav.tx.mono (by omega) (Nat.le_refl _)⟩
        exact ActC.mono (hr.keep (Stays.of_below b2 (Nat.le_refl _))) (Nat.le_refl _) b2.size
      clear hown2 hown hl b2 hb hGs hfr hav hv2 e1 HX hkl
      have e1 := HE1.out
      clear HE1
      subst e1
      go_wp2
      refine ⟨⟨k+1, by omega, by go_num, (((hb2.setCell (p := ⟨G, k * 3, none⟩) (Nat.le_refl _) _).setCell (p := ⟨G, k * 3 + 1, none⟩) (Nat.le_refl _) _).setCell (p := ⟨G, k * 3 + 2, none⟩) (Nat.le_refl _) _), by simpa [World.setCell] using hG2, _, HS.out, ?_⟩, by simp [intOf]; omega⟩
      have hs := ((((Stays.refl w2 (G + 1) w2.heap.size).setCell (p := ⟨G, k * 3, none⟩) (.inl (by simp)) (.int .i64 x[k].kind)).setCell (p := ⟨G, k * 3 + 1, none⟩) (.inl (by simp)) (.string x[k].pat.rel)).setCell (p := ⟨G, k * 3 + 2, none⟩) (.inl (by simp)) ((.slice a1 x[k].pat.args.length cap1)))
      exact HR.out.imp fun cs a hr => ActC.mono (hr.keep hs) (Nat.le_refl _) (Nat.le_of_eq (by simp [World.setCell]))
    · go_wp2
      go_ret
      obtain rfl : k = x.length := by omega
      have hfr' := hfr.out
      rw [List.take_of_length_le (Nat.le_refl _)] at hfr'
      have hg := HG.out
      subst hg
      exact ⟨_, rfl, ⟨Fil.sl (hfr'.imp fun cs a hr => ActC.mono hr (by omega) (Nat.le_refl _)) hown (fun g hg => (hown.lt g hg).2), Nat.le_refl _⟩, hb⟩
end Go.Proofs.Ytojgkodffmdnpaa
