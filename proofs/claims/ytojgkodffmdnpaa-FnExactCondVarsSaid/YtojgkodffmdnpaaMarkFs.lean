/- The contracts of the laws' own functions that mark lists of facts and that ask whether the marks are held; wherever the lengths can be counted. -/
import Derived.Test.YtojgkodffmdnpaaMark
namespace Go.Proofs.Ytojgkodffmdnpaa
open Go.RowKit
attribute [local go_sem ↓] Go.wp_at_zero Go.wp_at_succ
set_option linter.unusedVariables false
theorem ctFs_len (L : List FactV) : L.length ≤ ctFs L := by
  induction L with
  | nil => simp [ctFs]
  | cons f r ih => simp only [List.length_cons, ctFs]; omega
set_option maxHeartbeats 2000000 in
theorem cmk_facts {v : Value} {x : List FactV} {k0 lo hi : Nat} {w : World} (h : Ob (SO 9 79) w lo hi v x) (h1 : 1 ≤ k0) (h2 : k0 + ctFs x ≤ 1000000000) :
    Calls Try.prog 69 #[v, .int .i64 k0] w fun e w' => e = .returned (.int .i64 (k0 + ctFs x : Nat)) ∧ Ob (SO 9 79) w' lo hi v (mkFs x k0) ∧ Chg lo hi w w' := by
  obtain ⟨⟨vs, hvl, hown, hbd, hrw, hdi⟩, hh⟩ := h
  have hle : x.length ≤ 1000000000 := by have := ctFs_len x; omega
  have HH := Lib.hid hh
  have HC : Hid (k0 + ctFs x ≤ 1000000000) := h2
  have HR : Hid (FRows 9 w lo hi vs x) := ⟨hvl, hrw, hdi⟩
  have HVL := Lib.hid hvl
  clear hh h2 hrw hdi hvl
  by_cases hz : x.length = 0
  · obtain rfl : x = [] := List.eq_nil_of_length_eq_zero hz
    have HV : Hid (Ob (SO 9 79) w lo hi v []) := ⟨SO.mk_ hown hbd HR.out, HH.out⟩
    obtain ⟨a, cap, rfl, -⟩ := HV.out.1.sf
    clear hown hbd hz
    go_enter Try.func69, Try.ntmps69
    go_wp2
    go_loop [1, 5] (fun q i => q = .int .i64 k0 ∧ i = .int .i64 0) (fun _ _ => 0)
    case atStart => exact ⟨rfl, rfl⟩
    case round =>
      obtain ⟨rfl, rfl⟩ := hrel
      go_wp2
      go_ret
      exact ⟨rfl, HV.out, (Up.rf w).chg _ _⟩
  · obtain ⟨g, cap, rfl, hlg, hg⟩ := hown.form (by omega)
    have HG : Hid (g < hi) := hbd g rfl
    have HL := Lib.hid hlg
    have HGL : Hid (∀ g', (Value.slice (some ⟨g, 0, none⟩) x.length cap).ownBlock = some g' → lo ≤ g' ∧ g' < hi) := by
      intro g' hg'
      obtain rfl : g = g' := by simpa [Value.ownBlock] using hg'
      exact ⟨HL.out, HG.out⟩
    have HS0 : Hid (w.ownsRow lo 79 2 (.slice (some ⟨g, 0, none⟩) x.length cap) x.length (flatF (midFs x k0 0) vs)) := by rw [midFs_0]; exact hown
    have HR0 : Hid (FRows 9 w lo hi vs (midFs x k0 0)) := by rw [midFs_0]; exact HR.out
    clear hbd hlg hz hown HR
    go_enter Try.func69, Try.ntmps69
    go_wp2
    go_loopw [1, 5] (fun q i wr => ∃ (k : Nat), k ≤ x.length ∧ i = .int .i64 k ∧ q = .int .i64 (k0 + ctFs (x.take k) : Nat) ∧ Hid (Chg lo hi w wr) ∧ Hid (wr.ownsRow lo 79 2 (.slice (some ⟨g, 0, none⟩) x.length cap) x.length (flatF (midFs x k0 k) vs)) ∧ Hid (FRows 9 wr lo hi vs (midFs x k0 k))) (fun _ i _ => x.length - (intOf i).toNat)
    case atStart => exact ⟨0, Nat.zero_le _, rfl, rfl, (Up.rf w).chg _ _, HS0.out, HR0.out⟩
    case round =>
      clear HS0 HR0
      obtain ⟨k, hk, rfl, rfl, HCh, HO, HF⟩ := hrel
      by_cases hlt : k < x.length
      · have i1 : (0 : Int) ≤ (k : Int) := by omega
        have i2 : (k : Int) < (x.length : Int) := by omega
        have HT := Lib.hid (ctFs_take_succ x k hlt)
        have hT2 := ctFs_take_le x (k + 1)
        have j1 : 1 ≤ k0 + ctFs (x.take k) := by omega
        have j2 : k0 + ctFs (x.take k) + 1 + x[k].args.length ≤ 1000000000 := by have := HC.out; have := HT.out; omega
        clear hT2
        obtain ⟨av, hav⟩ : ∃ av, vs[k]? = some av := ⟨vs[k]'(by rw [HVL.out]; exact hlt), List.getElem?_eq_getElem _⟩
        have HAV := Lib.hid hav
        clear hav
        go_wp2_with fail
        refine (markText_any (k0 + ctFs (x.take k)) _ j1 (by omega)).mono ?_
        rintro e w1 ⟨rfl, hb1⟩
        have HCh1 : Hid (Chg lo hi w w1) := HCh.out.up hb1
        have hown1 := owns_below HO.out hb1
        have HF1 : Hid (FRows 9 w1 lo hi vs (midFs x k0 k)) := HF.out.keep (Stays.of_below hb1 (Nat.le_trans HH.out HCh.out.size))
        clear HCh HO HF hb1
        obtain ⟨x2, c2⟩ := ownsRow_ex hown1 (k * 2) (by omega)
        have c3 := hown1.frozenAt (k * 2)
        have hst := hown1.stored (k * 2) (.string (markTxt (k0 + ctFs (x.take k))))
        have HS := Lib.hid hst.1
        have HF2 : Hid (FRows 9 (w1.setCell ⟨g, k * 2, none⟩ (.string (markTxt (k0 + ctFs (x.take k))))) lo hi vs (midFs x k0 k)) := HF1.out.grown (by decide) hown1 hst.2
        have HCh2 : Hid (Chg lo hi w (w1.setCell ⟨g, k * 2, none⟩ (.string (markTxt (k0 + ctFs (x.take k)))))) := HCh1.out.tr (Chg.grown hst.2 HGL.out)
        have c4 : (w1.setCell ⟨g, k * 2, none⟩ (.string (markTxt (k0 + ctFs (x.take k))))).cell? ⟨g, k * 2 + 1, none⟩ = some av := by
          have hl := HS.out.1
          rw [HS.out.cellAt (k * 2 + 1) (by omega), List.getElem?_set_ne (by omega), flatF_get1 _ _ k (by rw [midFs_len]; exact hlt) (by rw [midFs_len]; exact HVL.out)]
          exact HAV.out
        clear hown1 hst HF1 HCh1
        go_wp2_with fail
        generalize hW2 : w1.setCell ⟨g, k * 2, none⟩ (.string (markTxt (k0 + ctFs (x.take k)))) = W2 at *
        have HW2 := Lib.hid hW2
        clear hW2 c2 c3 c4
        have hvk : k < vs.length := by rw [HVL.out]; exact hlt
        have hto := HF2.out.2.1 k (by rw [midFs_len]; exact hlt) hvk
        have ev : vs[k] = av := by have := HAV.out; rw [List.getElem?_eq_getElem hvk] at this; simpa using this
        rw [ev, midFs_get x k0 k hlt] at hto
        refine (markT_any av x[k].args (k0 + ctFs (x.take k) + 1) lo hi _ hto (by omega) (by omega)).mono ?_
        rintro e w3 ⟨rfl, hto3, hg3⟩
        have HF3 : Hid (FRows 9 w3 lo hi vs (midFs x k0 (k + 1))) := by
          have := HF2.out.set (f := ⟨markTxt (k0 + ctFs (x.take k)), markL (k0 + ctFs (x.take k) + 1) x[k].args.length⟩) hvk (by rw [ev]; exact hg3) (by rw [ev]; exact hto3)
          rw [midFs_set x k0 k hlt] at this
          exact this
        have HO3 : Hid (w3.ownsRow lo 79 2 (.slice (some ⟨g, 0, none⟩) x.length cap) x.length (flatF (midFs x k0 (k + 1)) vs)) := by
          have := HS.out.kept hg3 (row_ne HS.out hto.1 (by decide))
          rw [flatF_set _ _ _ _ (markL (k0 + ctFs (x.take k) + 1) x[k].args.length) (by rw [midFs_len]; exact HVL.out), midFs_set x k0 k hlt] at this
          exact this
        have HCh3 : Hid (Chg lo hi w w3) := HCh2.out.tr (Chg.grown hg3 (fun g' hg' => hto.own hg'))
        have HN : Hid (k0 + ctFs (x.take (k + 1)) = k0 + ctFs (x.take k) + 1 + x[k].args.length) := by have := HT.out; show _ = _; omega
        clear HF2 HS HCh2 hto hto3 hg3 ev
        go_wp2
        exact ⟨⟨k+1, by omega, by go_num, by rw [HN.out]; go_num, HCh3.out, HO3.out, HF3.out⟩, by simp [intOf]; omega⟩
      · obtain rfl : k = x.length := by omega
        go_wp2
        go_ret
        have ho := HO.out
        have hf := HF.out
        rw [midFs_end x k0 _ (Nat.le_refl _)] at ho hf
        refine ⟨ret_int (by rw [List.take_of_length_le (Nat.le_refl _)]), ⟨SO.mk_ (by rw [mkFs_len]; exact ho) ?_ hf, Nat.le_trans HH.out HCh.out.size⟩, HCh.out⟩
        intro g' hg'
        obtain rfl : g = g' := by simpa [Value.ownBlock] using hg'
        exact HG.out
set_option maxHeartbeats 2000000 in
theorem chd_facts {v : Value} {x : List FactV} {k0 lo hi : Nat} {w : World} (h : Ob SF w lo hi v (mkFs x k0)) (h1 : 1 ≤ k0) (h2 : k0 + ctFs x ≤ 1000000000) :
    Calls Try.prog 70 #[v, .int .i64 k0] w fun e w' => e = .returned (.int .i64 (k0 + ctFs x : Nat)) ∧ Up w w' := by
  have hle : x.length ≤ 1000000000 := by have := ctFs_len x; omega
  have HC : Hid (k0 + ctFs x ≤ 1000000000) := h2
  obtain ⟨a, cap, e0⟩ := h.1.form
  rw [mkFs_len] at e0
  subst e0
  have HV := Lib.hid h
  clear h h2
  go_enter Try.func70, Try.ntmps70
  go_wp2
  go_loopw [1, 5] (fun q i wr => ∃ (k : Nat), k ≤ x.length ∧ i = .int .i64 k ∧ q = .int .i64 (k0 + ctFs (x.take k) : Nat) ∧ Up w wr) (fun _ i _ => x.length - (intOf i).toNat)
  case atStart => exact ⟨0, Nat.zero_le _, rfl, rfl, Up.rf w⟩
  case round =>
    obtain ⟨k, hk, rfl, rfl, hb⟩ := hrel
    by_cases hlt : k < x.length
    · have hlm : k < (mkFs x k0).length := by rw [mkFs_len]; exact hlt
      obtain ⟨b, off, d, c, rfl, c0, c1, hA⟩ := SF.at (HV.out.up hb).1 hlm
      have ge : (mkFs x k0)[k]'hlm = _ := mkFs_get x k0 k hlt
      rw [ge] at c0 c1 hA
      simp only [markL_len] at c0 c1 hA
      have HT := Lib.hid (ctFs_take_succ x k hlt)
      have hT2 := ctFs_take_le x (k + 1)
      have i1 : (0 : Int) ≤ (k : Int) := by omega
      have i2 : (k : Int) < (x.length : Int) := by omega
      have j1 : 1 ≤ k0 + ctFs (x.take k) := by omega
      have j2 : k0 + ctFs (x.take k) + 1 + x[k].args.length ≤ 1000000000 := by have := HC.out; have := HT.out; omega
      have HO : Hid (Ob TX wr lo hi (.slice d x[k].args.length c) (mkT x[k].args (k0 + ctFs (x.take k) + 1))) := by
        obtain ⟨cs, e1, av, e2, ht⟩ := hA
        subst e2
        have e3 : Value.slice d x[k].args.length c = av := by simpa using e1
        subst e3
        exact ⟨ht, Nat.le_trans HV.out.2 hb.size⟩
      clear hA hT2 ge
      go_wp2_with fail
      go_region_held3 (fun w' => w'.cell? ⟨b, off + k * 2, none⟩ = some (.string (markTxt (k0 + ctFs (x.take k)))) ∧ w'.cell? ⟨b, off + k * 2 + 1, none⟩ = some (.slice d x[k].args.length c) ∧ Up wr w')
        (first | exact ⟨c0, c1, (Up.rf _).dr⟩ | (have hh := ‹_ ∧ _ ∧ _›; have hb := ‹Up _ _›; exact ⟨keepCell hb hh.1, keepCell hb hh.2.1, hh.2.2.tr hb⟩))
        (first | (go_at_call 82; refine (markText_any (k0 + ctFs (x.take k)) _ j1 (by omega)).mono ?_; rintro e w1 ⟨rfl, b1⟩))
      have hb' : Up wr w1 := (Up.rf wr).dr.tr b1
      have c1' := keepCell hb' c1
      have HO' := Lib.hid (HO.out.up hb')
      have hbw : Up w w1 := hb.tr hb'
      clear b1 hb c0 c1 HO hb'
      go_wp2_with fail
      refine (chd_texts HO'.out (by omega) (by unfold ctT; omega)).mono ?_
      rintro e w2 ⟨rfl, b2⟩
      have hb2 : Up w w2 := hbw.tr b2
      have HN : Hid (k0 + ctFs (x.take k) + 1 + ctT x[k].args = k0 + ctFs (x.take (k + 1))) := by have := HT.out; unfold ctT; show _ = _; omega
      have i0 : (0 : Int) ≤ (k0 + ctFs (x.take k) + 1 + ctT x[k].args : Nat) := by omega
      clear b2 hbw c1' HO'
      go_wp2
      exact ⟨⟨k+1, by omega, by go_num, by rw [← HN.out]; go_num, hb2⟩, by simp [intOf]; omega⟩
    · go_wp2
      go_ret
      obtain rfl : k = x.length := by omega
      exact ⟨ret_int (by rw [List.take_of_length_le (Nat.le_refl _)]), hb⟩
end Go.Proofs.Ytojgkodffmdnpaa
