/- FormatBinding, the program's and the reference's: the pairs' texts with blanks between them; wherever the lengths can be counted. -/
import Derived.Test.YtpbnglpiadfjpaaForm
namespace Go.Proofs.Ytpbnglpiadfjpaa
open Go.RowKit
attribute [local go_sem ↓] Go.wp_at_zero Go.wp_at_succ
set_option linter.unusedVariables false
theorem formB_1 {x : Prs} (h : isBindB x = false) : formB x = ⟨#[]⟩ := by unfold formB; rw [h]; rfl
theorem formB_2 {x : Prs} (h : isBindB x = true) (h0 : x.length = 0) : formB x = ⟨#[45]⟩ := by unfold formB; rw [if_pos h, if_pos h0]; rfl
theorem formB_3 {x : Prs} (h : isBindB x = true) (h0 : x.length ≠ 0) : formB x = joinB (x.map pairT) ⟨#[32]⟩ := by unfold formB; rw [if_pos h, if_neg h0]; rfl
theorem formB_join {x : Prs} (h : isBindB x = true) : (joinB (x.map pairT) ⟨#[32]⟩).size ≤ 140737488355328 := by
  have := join_small (L := x.map pairT) (sep := ⟨#[32]⟩) (n := 18) (m := 6) (by
    intro s hs
    obtain ⟨p, hp, rfl⟩ := List.mem_map.1 hs
    obtain ⟨k, hk, rfl⟩ := List.mem_iff_getElem.1 hp
    have h1 := isBindB_at h hk
    have h2 := isVarB_size h1.1
    have h3 := (isAtomB_size h1.2).2
    rw [pairT_size]; omega) (by simpa using isBindB_len h)
  have h2 : (⟨#[32]⟩ : ByteArray).size = 1 := rfl
  omega
set_option maxHeartbeats 2000000 in
set_option maxRecDepth 100000 in
theorem cFormB {v : Value} {x : Prs} {lo hi : Nat} {w : World} (h : Ob SP w lo hi v x) (hz : psz x ≤ 1048576) :
    Calls Try.prog 62 #[v] w fun e w' => e = .returned (.string (formB x)) ∧ Up w w' := by
  obtain ⟨a, cap, rfl⟩ := h.1.form
  obtain ⟨i0, hi0, hz0, hz1, hz2⟩ := info_parts Try.infoStr
  have HV := Lib.hid h
  clear h
  cases h1 : isBindB x
  · have HE := Lib.hid (formB_1 h1)
    go_enter Try.func62, Try.ntmps62
    go_wp2_with fail
    refine (cIsBinding HV.out hz).mono ?_
    rintro e w1 ⟨rfl, b1⟩
    rw [h1]
    have HB := Lib.hid b1
    clear b1
    go_wp2
    go_ret
    exact ⟨ret_str HE.out.symm, HB.out⟩
  have H1 := Lib.hid h1
  have HJ := Lib.hid (formB_join h1)
  have hl6 := isBindB_len h1
  by_cases h0 : x.length = 0
  · have HE := Lib.hid (formB_2 h1 h0)
    have hd : ((x.length : Int) == 0) = true := by simp [h0]
    clear h0
    go_enter Try.func62, Try.ntmps62
    go_wp2_with fail
    refine (cIsBinding HV.out hz).mono ?_
    rintro e w1 ⟨rfl, b1⟩
    rw [h1]
    have HB := Lib.hid b1
    clear b1
    go_wp2
    go_ret
    exact ⟨ret_str HE.out.symm, HB.out⟩
  have H0 := Lib.hid h0
  have hd : ((x.length : Int) == 0) = false := by simp; intro e; subst e; simp at h0
  clear h0
  go_enter Try.func62, Try.ntmps62
  go_wp2_with fail
  refine (cIsBinding HV.out hz).mono ?_
  rintro e w1 ⟨rfl, b1⟩
  rw [h1]
  have HB := Lib.hid b1
  clear b1
  go_wp2_with fail
  go_loopw [3, 14] (fun o i wr => ∃ (k : Nat), k ≤ x.length ∧ i = .int .i64 k ∧ Up w1 wr ∧ Hid (TO 9 wr w1.heap.size wr.heap.size o ((x.take k).map pairT))) (fun _ i _ => x.length - (intOf i).toNat)
  case atStart => exact ⟨0, Nat.zero_le _, rfl, Up.rf _, TO.nil_ _ _ _ _⟩
  case round =>
    obtain ⟨k, hk, rfl, hb, HP⟩ := hrel
    by_cases hlt : k < x.length
    · obtain ⟨b, off, rfl, c0, c1⟩ := SP.at (HV.out.up (HB.out.tr hb)).1 hlt
      have i1 : (0 : Int) ≤ (k : Int) := by omega
      have i2 : (k : Int) < (x.length : Int) := by omega
      have HM : Hid ((x.take (k + 1)).map pairT = (x.take k).map pairT ++ [x[k].1 ++ ⟨#[61]⟩ ++ x[k].2]) := map_take_succ hlt
      have hat := isBindB_at H1.out hlt
      have z1 := isVarB_size hat.1
      have z2 := (isAtomB_size hat.2).2
      have e1 : (⟨#[61]⟩ : ByteArray).size = 1 := rfl
      have r1 : ∀ W, (Op.stringOp .add x[k].1 ⟨#[61]⟩).run Try.prog W = .ok (.string (x[k].1 ++ ⟨#[61]⟩)) W := fun W => run_string_add_sum W _ _ (by omega)
      have r2 : ∀ W, (Op.stringOp .add (x[k].1 ++ ⟨#[61]⟩) x[k].2).run Try.prog W = .ok (.string (x[k].1 ++ ⟨#[61]⟩ ++ x[k].2)) W := fun W => run_string_add_sum W _ _ (by rw [ByteArray.size_append]; omega)
      clear hat z1 z2 e1
      have hl : ((x.take k).map pairT).length ≤ 6 := by simp; omega
      have hbs := hb.size
      have HU := Lib.hid (Up.al1 wr (.cells #[.string x[k].1, .string x[k].2] 92))
      have HT := Lib.hid (((show Ob (TO 9) wr w1.heap.size wr.heap.size _ _ from ⟨HP.out, Nat.le_refl _⟩).up HU.out).1)
      have HB1 := Lib.hid (hb.tr HU.out)
      have hn9 := news1 (Blk.new (wr.alloc (.cells #[.string x[k].1, .string x[k].2] 92)) 9 #[.string (x[k].1 ++ ⟨#[61]⟩ ++ x[k].2)])
      have hz9 : (wr.alloc (.cells #[.string x[k].1, .string x[k].2] 92)).heap.size = wr.heap.size + 1 := by simp
      rw [hz9] at hn9
      clear hz9
      have HN := Lib.hid hn9
      clear hn9
      have hba : w1.heap.size ≤ ((wr.alloc (.cells #[.string x[k].1, .string x[k].2] 92)).alloc (.cells #[.string (x[k].1 ++ ⟨#[61]⟩ ++ x[k].2)] 9)).heap.size := by simp; omega
      clear HP
      go_wp2_with (at_builtin; refine wpList_append_own _ rfl _ _ 22 rfl w1.heap.size 9 i0 _ 1 16 Try.underlying22 hi0 hz0 hz1 hz2 rfl (by decide) _ ((x.take k).map pairT).length (((x.take k).map pairT).map Value.string) rfl (HT.out.1.alloc _) ⟨wr.heap.size + 1, 0, none⟩ 1 1 [.string (x[k].1 ++ ⟨#[61]⟩ ++ x[k].2)] rfl rfl HN.out (one1 rfl) (by unfold maxLen; omega) (by omega) hba ?_; intro v3 w3 hown' hgrow _)
      have hb3 : Up w1 w3 := (HB1.out.al _).grown hgrow (fun g hg => (HT.out.1.lt g hg).1)
      have hP3 : Hid (TO 9 w3 w1.heap.size w3.heap.size v3 ((x.take (k + 1)).map pairT)) := by show TO _ _ _ _ _ _; rw [HM.out]; exact TO.snoc hown'
      clear hown' hgrow HT HB1 HN
      go_wp2
      exact ⟨⟨k+1, by omega, by go_num, hb3, hP3.out⟩, by simp [intOf]; omega⟩
    · have HE : Hid (formB x = joinB (x.map pairT) ⟨#[32]⟩) := formB_3 H1.out H0.out
      have HT := Lib.hid (show Ob TX wr w1.heap.size wr.heap.size _ (x.map pairT) from ⟨by have h := HP.out; rw [List.take_of_length_le (by omega)] at h; exact h.tx, Nat.le_refl _⟩)
      clear HP
      go_wp2_with fail
      refine (cJoin HT.out (by simp; omega) HJ.out).mono ?_
      rintro e w2 ⟨rfl, b2⟩
      have HB2 := Lib.hid (HB.out.tr (hb.tr b2))
      clear b2
      go_wp2
      go_ret
      exact ⟨ret_str HE.out.symm, HB2.out⟩
set_option maxHeartbeats 2000000 in
set_option maxRecDepth 100000 in
theorem cFormBS {v : Value} {x : Prs} {lo hi : Nat} {w : World} (h : Ob SP w lo hi v x) (hz : psz x ≤ 1048576) :
    Calls Try.prog 61 #[v] w fun e w' => e = .returned (.string (formB x)) ∧ Up w w' := by
  obtain ⟨a, cap, rfl⟩ := h.1.form
  obtain ⟨i0, hi0, hz0, hz1, hz2⟩ := info_parts Try.infoStr
  have HV := Lib.hid h
  clear h
  cases h1 : isBindB x
  · have HE := Lib.hid (formB_1 h1)
    go_enter Try.func61, Try.ntmps61
    go_wp2_with fail
    refine (cIsBindingS HV.out hz).mono ?_
    rintro e w1 ⟨rfl, b1⟩
    rw [h1]
    have HB := Lib.hid b1
    clear b1
    go_wp2
    go_ret
    exact ⟨ret_str HE.out.symm, HB.out⟩
  have H1 := Lib.hid h1
  have HJ := Lib.hid (formB_join h1)
  have hl6 := isBindB_len h1
  go_enter Try.func61, Try.ntmps61
  go_wp2_with fail
  refine (cIsBindingS HV.out hz).mono ?_
  rintro e w1 ⟨rfl, b1⟩
  rw [h1]
  have HB := Lib.hid b1
  clear b1
  go_wp2_with fail
  go_loopw [3, 4] (fun o i wr => ∃ (k : Nat), k ≤ x.length ∧ i = .int .i64 k ∧ Up w1 wr ∧ Hid (TO 9 wr w1.heap.size wr.heap.size o ((x.take k).map pairT))) (fun _ i _ => x.length - (intOf i).toNat)
  case atStart => exact ⟨0, Nat.zero_le _, rfl, Up.al1 _ _, TO.made_ _ _⟩
  case round =>
    obtain ⟨k, hk, rfl, hb, HP⟩ := hrel
    by_cases hlt : k < x.length
    · obtain ⟨b, off, rfl, c0, c1⟩ := SP.at (HV.out.up (HB.out.tr hb)).1 hlt
      have i1 : (0 : Int) ≤ (k : Int) := by omega
      have i2 : (k : Int) < (x.length : Int) := by omega
      have HM : Hid ((x.take (k + 1)).map pairT = (x.take k).map pairT ++ [x[k].1 ++ ⟨#[61]⟩ ++ x[k].2]) := map_take_succ hlt
      have hat := isBindB_at H1.out hlt
      have z1 := isVarB_size hat.1
      have z2 := (isAtomB_size hat.2).2
      have e1 : (⟨#[61]⟩ : ByteArray).size = 1 := rfl
      have r1 : ∀ W, (Op.stringOp .add x[k].1 ⟨#[61]⟩).run Try.prog W = .ok (.string (x[k].1 ++ ⟨#[61]⟩)) W := fun W => run_string_add_sum W _ _ (by omega)
      have r2 : ∀ W, (Op.stringOp .add (x[k].1 ++ ⟨#[61]⟩) x[k].2).run Try.prog W = .ok (.string (x[k].1 ++ ⟨#[61]⟩ ++ x[k].2)) W := fun W => run_string_add_sum W _ _ (by rw [ByteArray.size_append]; omega)
      clear hat z1 z2 e1
      have hl : ((x.take k).map pairT).length ≤ 6 := by simp; omega
      have hbs := hb.size
      have hbl : b < w1.heap.size := by
        obtain ⟨b9, off9, e9, q0, -⟩ := SP.at (HV.out.up HB.out).1 hlt
        injection e9 with e9; injection e9 with e9a e9b; subst e9a e9b
        exact World.block_lt_of_cell? _ _ q0
      have HP1 := Lib.hid HP.out.1
      have HN : Hid (∀ j u, [Value.string (x[k].1 ++ ⟨#[61]⟩ ++ x[k].2)][j]? = some u → (wr.alloc (.cells #[.string (x[k].1 ++ ⟨#[61]⟩ ++ x[k].2)] 9)).drew.cell? ((⟨wr.heap.size, 0, none⟩ : Addr).add j) = some u) := by have h9 := news1 (Blk.new wr 9 #[.string (x[k].1 ++ ⟨#[61]⟩ ++ x[k].2)]); exact fun j u hj => h9 j u hj
      go_wp2_with fail
      go_region_held3 (fun w' => w'.cell? ⟨b, off + k * 2, none⟩ = some (.string x[k].1) ∧ w'.cell? ⟨b, off + k * 2 + 1, none⟩ = some (.string x[k].2))
        (first
          | exact ⟨c0, c1⟩
          | exact ⟨keepCell (Up.dr (Up.al1 _ _)) c0, keepCell (Up.dr (Up.al1 _ _)) c1⟩
          | exact ⟨hgrow.cell (keepCell (Up.dr (Up.al1 _ _)) c0) (fun h => by have h2 : w1.heap.size ≤ b := (HP1.out.lt _ h.symm).1; omega), hgrow.cell (keepCell (Up.dr (Up.al1 _ _)) c1) (fun h => by have h2 : w1.heap.size ≤ b := (HP1.out.lt _ h.symm).1; omega)⟩)
        ((refine step_append_lies _ (by rfl) _ _ _ (by rfl) w1.heap.size 9 i0 _ 1 16 Try.underlying22 hi0 hz0 hz1 hz2 rfl (by omega) _ ((x.take k).map pairT).length (((x.take k).map pairT).map Value.string) (by rfl) ((HP1.out.alloc _).drew) ⟨wr.heap.size, 0, none⟩ 1 1 [.string (x[k].1 ++ ⟨#[61]⟩ ++ x[k].2)] (by rfl) (by rfl) HN.out (one1 rfl) (by omega) (by unfold maxLen; omega) (by omega) (by simp; omega) (wr.heap.size + 1) (by simp) ?_; intro gg cp w3 hown' hgrow hat hltg))
      have hb3 : Up w1 w3 := ((hb.al _).dr).grown hgrow (fun g hg => (HP1.out.lt g hg).1)
      have hP3 : Hid (TO 9 w3 w1.heap.size w3.heap.size (.slice (some ⟨gg, 0, none⟩) (((x.take k).map pairT).length + 1) cp) ((x.take (k + 1)).map pairT)) := by show TO _ _ _ _ _ _; rw [HM.out]; exact TO.snoc hown'
      have hlk : ((x.take k).map pairT).length = k := by simp; omega
      rw [hlk] at hP3
      clear hown' hgrow HP HP1 hat hltg hlk
      go_wp2
      exact ⟨⟨k+1, by omega, by go_num, hb3, hP3.out⟩, by simp [intOf]; omega⟩
    · have hP := HP.out
      rw [List.take_of_length_le (by omega)] at hP
      obtain ⟨ta, tc, e9⟩ := hP.tx.form
      rw [List.length_map] at e9
      subst e9
      have HT := Lib.hid (show Ob TX wr w1.heap.size wr.heap.size _ (x.map pairT) from ⟨hP.tx, Nat.le_refl _⟩)
      clear HP hP
      by_cases h0 : x.length = 0
      · have HE := Lib.hid (formB_2 H1.out h0)
        have hd : ((x.length : Int) == 0) = true := by simp [h0]
        clear h0
        go_wp2
        go_ret
        exact ⟨ret_str HE.out.symm, HB.out.tr hb⟩
      · have HE := Lib.hid (formB_3 H1.out h0)
        have hd : ((x.length : Int) == 0) = false := by simp; intro e; subst e; simp at h0
        clear h0
        go_wp2_with fail
        refine (cJoinS HT.out (by simp; omega) HJ.out).mono ?_
        rintro e w2 ⟨rfl, b2⟩
        have HB2 := Lib.hid (HB.out.tr (hb.tr b2))
        clear b2
        go_wp2
        go_ret
        exact ⟨ret_str HE.out.symm, HB2.out⟩
end Go.Proofs.Ytpbnglpiadfjpaa
