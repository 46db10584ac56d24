/- The contracts of the laws' own functions on lists of facts (size, copy, equality), and of FindFact and SameFacts; wherever the lengths can be counted. -/
import Derived.Test.YtojgkodffmdnpaaPair
namespace Go.Proofs.Ytojgkodffmdnpaa
open Go.RowKit
attribute [local go_sem ↓] Go.wp_at_zero Go.wp_at_succ
set_option linter.unusedVariables false
def fsum : List FactV → Nat
  | [] => 0
  | p :: r => fsz p + fsum r
def fssz (L : List FactV) : Nat := L.length + fsum L
theorem fsum_append (A B : List FactV) : fsum (A ++ B) = fsum A + fsum B := by
  induction A with
  | nil => simp [fsum]
  | cons a A ih => simp [fsum, ih]; omega
theorem fsum_take_succ (L : List FactV) (k : Nat) (h : k < L.length) : fsum (L.take (k + 1)) = fsum (L.take k) + fsz L[k] := by
  rw [List.take_succ_eq_append_getElem h, fsum_append]; simp [fsum]
theorem fsum_take_le (L : List FactV) (k : Nat) : fsum (L.take k) ≤ fsum L := by
  conv => rhs; rw [← List.take_append_drop k L]
  rw [fsum_append]; omega
theorem fsum_mem {L : List FactV} {f : FactV} (h : f ∈ L) : fsz f ≤ fsum L := by
  induction L with
  | nil => cases h
  | cons a L ih =>
    rcases List.mem_cons.1 h with rfl | h
    · simp [fsum]
    · have := ih h; simp [fsum]; omega
def okFs (L : List FactV) : Prop := ∀ p ∈ L, okF p
/- rows of texts, no two the same, each the call's own -/
def FRows (E : TypeId) (w : World) (lo hi : Nat) (vs : List Value) (L : List FactV) : Prop :=
  vs.length = L.length ∧ (∀ i (h : i < L.length) (h' : i < vs.length), TO E w lo hi vs[i] L[i].args) ∧ (∀ i j g (h : i < vs.length) (h' : j < vs.length), vs[i].ownBlock = some g → vs[j].ownBlock = some g → i = j)
theorem FRows.nil {E : TypeId} {w : World} {lo hi : Nat} : FRows E w lo hi [] [] := ⟨rfl, fun i h => by simp at h, fun i j g h => by simp at h⟩
theorem FRows.keep {E : TypeId} {w w' : World} {lo hi : Nat} {vs : List Value} {L : List FactV} (h : FRows E w lo hi vs L) (hk : Stays w w' lo hi) : FRows E w' lo hi vs L :=
  ⟨h.1, fun i h1 h2 => (h.2.1 i h1 h2).keep hk, h.2.2⟩
theorem FRows.mono {E : TypeId} {w : World} {lo hi lo' hi' : Nat} {vs : List Value} {L : List FactV} (h : FRows E w lo hi vs L) (h1 : lo' ≤ lo) (h2 : hi ≤ hi') : FRows E w lo' hi' vs L :=
  ⟨h.1, fun i h3 h4 => (h.2.1 i h3 h4).mono h1 h2, h.2.2⟩
theorem TO.own {E : TypeId} {w : World} {lo hi g : Nat} {v : Value} {L : List ByteArray} (h : TO E w lo hi v L) (hg : v.ownBlock = some g) : lo ≤ g ∧ g < hi := ⟨(h.1.lt g hg).1, h.2 g hg⟩
theorem FRows.snoc {E : TypeId} {w : World} {lo hi mid : Nat} {vs : List Value} {L : List FactV} {v : Value} {f : FactV} (h : FRows E w lo mid vs L) (hv : TO E w mid hi v f.args) (h1 : lo ≤ mid) (h2 : mid ≤ hi) : FRows E w lo hi (vs ++ [v]) (L ++ [f]) := by
  obtain ⟨hl, ht, hd⟩ := h
  refine ⟨by simp [hl], fun i h3 h4 => ?_, fun i j g h3 h4 g1 g2 => ?_⟩
  · by_cases hi : i < L.length
    · rw [List.getElem_append_left (by omega), List.getElem_append_left hi]; exact (ht i hi (by omega)).mono (Nat.le_refl _) h2
    · obtain rfl : i = L.length := by simp at h3; omega
      rw [List.getElem_append_right (by omega), List.getElem_append_right (by omega)]; simp only [hl, Nat.sub_self, List.getElem_cons_zero]; exact hv.mono h1 (Nat.le_refl _)
  · simp only [List.length_append, List.length_singleton] at h3 h4
    by_cases hi : i < vs.length <;> by_cases hj : j < vs.length
    · rw [List.getElem_append_left hi] at g1; rw [List.getElem_append_left hj] at g2; exact hd i j g hi hj g1 g2
    · rw [List.getElem_append_left hi] at g1; rw [List.getElem_append_right (by omega)] at g2
      have e1 := (ht i (by omega) hi).own g1
      have e2 := hv.own (by simpa using g2)
      omega
    · rw [List.getElem_append_left hj] at g2; rw [List.getElem_append_right (by omega)] at g1
      have e1 := (ht j (by omega) hj).own g2
      have e2 := hv.own (by simpa using g1)
      omega
    · omega
theorem flatF_snoc (A : List FactV) (vs : List Value) (f : FactV) (v : Value) (h : vs.length = A.length) : flatF (A ++ [f]) (vs ++ [v]) = flatF A vs ++ [.string f.rel, v] := by
  rw [flatF_append _ _ _ _ h]; rfl
theorem take_set2 {α : Type} (xs : List α) (i : Nat) (a b : α) (h : i + 1 < xs.length) : ((xs.set i a).set (i + 1) b).take (i + 2) = xs.take i ++ [a, b] := by
  have e1 : ((xs.set i a).set (i + 1) b).length = xs.length := by simp
  rw [show i + 2 = i + 1 + 1 by omega, List.take_succ_eq_append_getElem (by omega), List.take_set_of_le (Nat.le_refl _), List.take_succ_eq_append_getElem (by simp; omega), List.take_set_of_le (Nat.le_refl _)]
  simp
theorem SO.mk_ {E EF : TypeId} {w : World} {lo hi : Nat} {v : Value} {vs : List Value} {L : List FactV} (h : w.ownsRow lo EF 2 v L.length (flatF L vs)) (hh : ∀ g, v.ownBlock = some g → g < hi) (hr : FRows E w lo hi vs L) : SO E EF w lo hi v L :=
  ⟨vs, hr.1, h, hh, hr.2.1, hr.2.2⟩
set_option maxHeartbeats 400000 in
theorem csz_facts {v : Value} {x : List FactV} {left : Int} {lo hi : Nat} {w : World} (h : Ob SF w lo hi v x) (hok : okFs x) (h0 : 0 ≤ left) (h2 : left ≤ 1048576) :
    Calls Try.prog 26 #[v, .int .i64 left] w fun e w' => e = .returned (.int .i64 (szv left (fssz x))) ∧ Up w w' := by
  have hlen := h.1.len
  obtain ⟨a, cap, rfl⟩ := h.1.form
  have HV := Lib.hid h
  clear h
  go_enter Try.func26, Try.ntmps26
  by_cases hl : (x.length : Int) ≤ left
  · go_wp2
    go_loopw [1, 5] (fun l i wr => ∃ (k : Nat) (m : Int), k ≤ x.length ∧ i = .int .i64 k ∧ l = .int .i64 m ∧ 0 ≤ m ∧ m ≤ 1048576 ∧ Hid (m = left - x.length - fsum (x.take k)) ∧ Up w wr) (fun _ i _ => x.length - (intOf i).toNat)
    case atStart => exact ⟨0, _, Nat.zero_le _, rfl, rfl, by omega, by omega, by simp [Hid, fsum], Up.rf w⟩
    case round =>
      obtain ⟨k, m, hk, rfl, rfl, hm0, hm1, H, hb⟩ := hrel
      by_cases hlt : k < x.length
      · obtain ⟨b, off, d, c, rfl, c0, c1, hA⟩ := SF.at (HV.out.up hb).1 hlt
        have hsk := hok x[k] (List.getElem_mem hlt)
        have HT := Lib.hid (fsum_take_succ x k hlt)
        have HL := Lib.hid (fsum_take_le x (k+1))
        have HO : Hid (Ob AF wr lo hi (.agg #[.string x[k].rel, .slice d x[k].args.length c]) x[k]) := ⟨hA, Nat.le_trans HV.out.2 hb.size⟩
        clear hA
        go_wp2_with fail
        clear c0 c1
        refine (csz_fact HO.out hsk hm0 hm1).mono ?_
        rintro e w1 ⟨rfl, b1⟩
        have hb' := Up.tr hb b1
        clear b1 hb
        by_cases hm : ((fsz x[k] : Nat) : Int) ≤ m
        · rw [szv_pos hm]
          go_wp2
          exact ⟨⟨k+1, m - (fsz x[k] : Nat), by omega, by go_num, rfl, by omega, by omega, by have := H.out; have := HT.out; show _ = _; omega, hb'⟩, by simp [intOf]; omega⟩
        · rw [szv_neg (by omega)]
          go_wp2
          go_ret
          refine ⟨ret_int ?_, hb'⟩
          have := H.out; have := HT.out; have := HL.out
          rw [szv_neg (by unfold fssz; omega)]
      · have HK : Hid (x.take k = x) := List.take_of_length_le (by omega)
        go_wp2
        go_ret
        refine ⟨ret_int ?_, hb⟩
        have h := H.out
        rw [HK.out] at h
        rw [szv_pos (by unfold fssz; omega)]; unfold fssz; omega
  · go_wp2
    go_ret
    refine ⟨ret_int ?_, Up.rf w⟩
    rw [szv_neg (by unfold fssz; omega)]
theorem Try.infoFact : (Try.prog.info? 79).map (fun i => (i.zero, i.size, i.bytes)) = some (some (.agg #[.string ByteArray.empty, .slice none 0 0]), 2, 40) := by kernel_rfl
set_option maxHeartbeats 400000 in
theorem cto_facts {v : Value} {x : List FactV} {lo hi : Nat} {w : World} (h : Ob SF w lo hi v x) (hz : fssz x ≤ 1048576) :
    Calls Try.prog 28 #[v] w fun e w' => ∃ v', e = .returned v' ∧ Ob (SO 9 79) w' w.heap.size w'.heap.size v' x ∧ Up w w' := by
  have hlen := h.1.len
  obtain ⟨a, cap, rfl⟩ := h.1.form
  have HV := Lib.hid h
  clear h
  have hx : x.length ≤ 1048576 := by unfold fssz at hz; omega
  have HM : Hid (∀ f ∈ x, fsz f ≤ 1048576) := fun f hf => by have := fsum_mem hf; unfold fssz at hz; omega
  clear hz
  obtain ⟨i0, hi0, hz0, hz1, hz2⟩ := info_parts Try.infoFact
  go_enter Try.func28, Try.ntmps28
  go_wp2_with (at_make; refine wpList_make_full _ rfl _ _ 45 rfl w.heap.size 79 i0 _ 2 Try.underlying45 hi0 hz0 hz1 .i64 .i64 _ _ x.length rfl rfl rfl rfl (by rw [hz2]; omega) (by unfold maxLen; omega) (Nat.le_refl _) ?_; intro w1 hown hgrow)
  have hbel : Below w.heap.size w w1 := (Below.refl _ _).grown hgrow (Nat.le_refl _) (by simp)
  clear hgrow
  generalize hG : w.heap.size = G at *
  have HG := Lib.hid hG; clear hG
  go_loopw [4] (fun i wr => ∃ (k : Nat), k ≤ x.length ∧ i = .int .i64 k ∧ Below G w wr ∧ G < wr.heap.size ∧ ∃ xs vs, wr.ownsRow G 79 2 (.slice (some ⟨G, 0, none⟩) x.length x.length) x.length xs ∧ Hid (xs.take (k * 2) = flatF (x.take k) vs) ∧ Hid (FRows 9 wr (G + 1) wr.heap.size vs (x.take k))) (fun i _ => x.length - (intOf i).toNat)
  case atStart => exact ⟨0, Nat.zero_le _, rfl, hbel, (hown.lt G rfl).2, _, [], hown, by simp [Hid, flatF], FRows.nil⟩
  case round =>
    clear hown hbel
    obtain ⟨k, hk, rfl, hb, hGs, xs, vs, hown, hxs, hfr⟩ := hrel
    by_cases hlt : k < x.length
    · have hbu : Up w wr := by show Below w.heap.size w wr; rw [HG.out]; exact hb
      obtain ⟨b, off, d, c, rfl, c0, c1, hA⟩ := SF.at (HV.out.up hbu).1 hlt
      have HO : Hid (Ob AF wr lo hi (.agg #[.string x[k].rel, .slice d x[k].args.length c]) x[k]) := ⟨hA, Nat.le_trans HV.out.2 hbu.size⟩
      clear hA hbu
      have i1 : (0 : Int) ≤ (k : Int) := by omega
      have i2 : (k : Int) < (x.length : Int) := by omega
      go_wp2_with fail
      clear c0 c1
      refine (cto_fact HO.out (HM.out _ (List.getElem_mem hlt))).mono ?_
      rintro e w2 ⟨v2, rfl, hv2, b2⟩
      obtain ⟨av, rfl, hav⟩ := hv2.1
      obtain ⟨a1, cap1, e1⟩ := hav.tx.form
      have HE1 := Lib.hid e1
      have hown2 := owns_below hown b2
      have hb2 : Below G w w2 := hb.trans (b2.mono (by omega))
      have hG2 : G < w2.heap.size := Nat.lt_of_lt_of_le hGs b2.size
      obtain ⟨y0, c0⟩ := ownsRow_ex hown2 (k * 2) (by omega)
      obtain ⟨y1, c1⟩ := ownsRow_ex hown2 (k * 2 + 1) (by omega)
      have f0 := hown2.frozenAt (k * 2)
      have f1 := hown2.frozenAt (k * 2 + 1)
      have hl := hown2.1
      have HS := Lib.hid ((hown2.stored (k * 2) (.string x[k].rel)).1.stored (k * 2 + 1) av).1
      have HE : Hid (x.take (k + 1) = x.take k ++ [x[k]]) := List.take_succ_eq_append_getElem hlt
      have HX : Hid (((xs.set (k * 2) (.string x[k].rel)).set (k * 2 + 1) av).take ((k + 1) * 2) = flatF (x.take (k + 1)) (vs ++ [av])) := by
        show _ = _
        rw [show (k + 1) * 2 = k * 2 + 2 by omega, take_set2 _ _ _ _ (by omega), hxs.out, HE.out, flatF_snoc _ _ _ _ hfr.out.1]
      have HR : Hid (FRows 9 w2 (G + 1) w2.heap.size (vs ++ [av]) (x.take (k + 1))) := by
        show FRows _ _ _ _ _ _
        rw [HE.out]
        exact (hfr.out.keep (Stays.of_below b2 (Nat.le_refl _))).snoc hav (by omega) b2.size
      clear hown2 hown hxs hl b2 hb hGs hfr hav hv2 e1
      have e1 := HE1.out
      clear HE1
      subst e1
      go_wp2
      refine ⟨⟨k+1, by omega, by go_num, (hb2.setCell (p := ⟨G, k * 2, none⟩) (Nat.le_refl _) _).setCell (p := ⟨G, k * 2 + 1, none⟩) (Nat.le_refl _) _, by simpa [World.setCell] using hG2, _, _, HS.out, HX, ?_⟩, by simp [intOf]; omega⟩
      have hs := (((Stays.refl w2 (G + 1) w2.heap.size).setCell (p := ⟨G, k * 2, none⟩) (.inl (by simp)) (.string x[k].rel)).setCell (p := ⟨G, k * 2 + 1, none⟩) (.inl (by simp)) (.slice a1 x[k].args.length cap1))
      exact (HR.out.keep hs).mono (Nat.le_refl _) (Nat.le_of_eq (by simp [World.setCell]))
    · go_wp2
      go_ret
      have hl := hown.1
      obtain rfl : k = x.length := by omega
      have e : xs = flatF x vs := by
        have h := hxs.out
        rwa [List.take_of_length_le (by omega), List.take_of_length_le (Nat.le_refl _)] at h
      have hfr' := hfr.out
      rw [List.take_of_length_le (Nat.le_refl _)] at hfr'
      subst e
      have hg := HG.out
      subst hg
      exact ⟨_, rfl, ⟨SO.mk_ hown (fun g hg => (hown.lt g hg).2) (hfr'.mono (by omega) (Nat.le_refl _)), Nat.le_refl _⟩, hb⟩
set_option maxHeartbeats 400000 in
theorem ceq_facts {v v' : Value} {x : List FactV} {lo hi lo' hi' : Nat} {w : World} (h : Ob SF w lo hi v x) (h' : Ob SF w lo' hi' v' x) :
    Calls Try.prog 30 #[v, v'] w fun e w' => e = .returned (.bool true) ∧ Up w w' := by
  have hlen := h.1.len
  obtain ⟨a, cap, rfl⟩ := h.1.form
  obtain ⟨a', cap', rfl⟩ := h'.1.form
  have HV := Lib.hid h
  have HV' := Lib.hid h'
  clear h h'
  go_enter Try.func30, Try.ntmps30
  go_wp2
  go_loopw [5] (fun i wr => ∃ (k : Nat), k ≤ x.length ∧ i = .int .i64 k ∧ Up w wr) (fun i _ => x.length - (intOf i).toNat)
  case atStart => exact ⟨0, Nat.zero_le _, rfl, Up.rf w⟩
  case round =>
    obtain ⟨k, hk, rfl, hb⟩ := hrel
    by_cases hlt : k < x.length
    · obtain ⟨b, off, d, c, rfl, c0, c1, hA⟩ := SF.at (HV.out.up hb).1 hlt
      obtain ⟨b', off', d', c', rfl, d0, d1, hA'⟩ := SF.at (HV'.out.up hb).1 hlt
      have HO : Hid (Ob AF wr lo hi (.agg #[.string x[k].rel, .slice d x[k].args.length c]) x[k]) := ⟨hA, Nat.le_trans HV.out.2 hb.size⟩
      have HO' : Hid (Ob AF wr lo' hi' (.agg #[.string x[k].rel, .slice d' x[k].args.length c']) x[k]) := ⟨hA', Nat.le_trans HV'.out.2 hb.size⟩
      clear hA hA'
      have i1 : (0 : Int) ≤ (k : Int) := by omega
      have i2 : (k : Int) < (x.length : Int) := by omega
      go_wp2_with fail
      go_region_held3 (fun w' => w'.cell? ⟨b, off + k * 2, none⟩ = some (.string x[k].rel) ∧ w'.cell? ⟨b, off + k * 2 + 1, none⟩ = some (.slice d x[k].args.length c) ∧ w'.cell? ⟨b', off' + k * 2, none⟩ = some (.string x[k].rel) ∧ w'.cell? ⟨b', off' + k * 2 + 1, none⟩ = some (.slice d' x[k].args.length c') ∧ Up wr w')
        (first | exact ⟨c0, c1, d0, d1, (Up.rf _).dr⟩ | (have hh := ‹_ ∧ _ ∧ _ ∧ _ ∧ _›; have hb := ‹Up _ _›; exact ⟨keepCell hb hh.1, keepCell hb hh.2.1, keepCell hb hh.2.2.1, keepCell hb hh.2.2.2.1, hh.2.2.2.2.tr hb⟩))
        (first | (go_at_call 50; have hh := ‹_ ∧ _ ∧ _ ∧ _ ∧ _›; (with_reducible refine (ceq_fact (HO.out.up hh.2.2.2.2) (HO'.out.up hh.2.2.2.2)).mono ?_); clear hh; rintro e w1 ⟨rfl, b1⟩))
      have hb' : Up w w1 := hb.dr.tr b1
      clear b1 hb c0 c1 d0 d1
      go_wp2
      exact ⟨⟨k+1, by omega, by go_num, hb'⟩, by simp [intOf]; omega⟩
    · go_wp2
      go_ret
      exact ⟨rfl, hb⟩
end Go.Proofs.Ytojgkodffmdnpaa
