/- ParseFacts, the program's and the reference's: one plain function of the text; wherever the lengths can be counted. -/
import Derived.Test.YtjaifoeagocapaaDoorParF
namespace Go.Proofs.YtjaifoeagocapaaDoor
open Go.RowKit
attribute [local go_sem ↓] Go.wp_at_zero Go.wp_at_succ
set_option linter.unusedVariables false
theorem Tryd.infoFactQ : (Tryd.prog.info? 35).map (fun i => (i.zero, i.size, i.bytes)) = some (some (.agg #[.string ByteArray.empty, .slice none 0 0]), 2, 40) := by kernel_rfl
theorem SO.made2_ (E EF : TypeId) (w : World) {w0 : Nat} (h : w0 ≤ w.heap.size) : SO E EF (w.alloc (.cells #[] EF)) w0 (w.alloc (.cells #[] EF)).heap.size (.slice (some ⟨w.heap.size, 0, none⟩) 0 0) [] :=
  have h1 := World.ownsRow_made (base := w0) (e := EF) (size := 2) w #[] 0 h (by unfold maxLen; omega) rfl
  SO.mk_ (vs := []) h1 (fun g hg => (h1.lt g hg).2) FRows.nil
theorem tSp_1 : 1 ≤ tSp.size := by decide
theorem pieces_size {s : ByteArray} (hs : s.size ≤ 1048576) {k : Nat} (hk : k < (spB s tSp).length) : ((spB s tSp)[k]).size ≤ 1048576 := Nat.le_trans (spB_mem (s := s) (sep := tSp) tSp_1 (List.getElem_mem hk)) hs
theorem pieces_len {s : ByteArray} (hs : s.size ≤ 1048576) : (spB s tSp).length ≤ 1048577 := by have := spB_le s tSp tSp_1; omega
theorem splitV_tsp (s : ByteArray) : splitV s tSp = spB s tSp := by unfold splitV; rw [if_neg (by decide)]
theorem parseFs_dash {s : ByteArray} (h : (s.toList == [45]) = true) : parseFs s = some [] := by
  rw [ByteArray.toList_eq] at h
  unfold parseFs; rw [if_pos (by simpa using h)]
theorem parseFs_no {s : ByteArray} {k : Nat} (h : (s.toList == [45]) = false) (hk : k < (spB s tSp).length) (h' : pOk (spB s tSp)[k] = false) : parseFs s = none := by
  rw [ByteArray.toList_eq] at h
  unfold parseFs
  rw [if_neg (by simpa using h), if_neg]
  rw [List.all_eq_true]
  intro hq
  rw [hq _ (List.getElem_mem hk)] at h'; cases h'
theorem parseFs_all {s : ByteArray} {k : Nat} (h : (s.toList == [45]) = false) (hk : (spB s tSp).length ≤ k) (h' : ((spB s tSp).take k).all pOk = true) : parseFs s = some (((spB s tSp).take k).map pVal) := by
  rw [ByteArray.toList_eq] at h
  rw [List.take_of_length_le hk] at h' ⊢
  unfold parseFs
  rw [if_neg (by simpa using h), if_pos h']
theorem all_snoc_t {α : Type} {L : List α} {p : α → Bool} {k : Nat} (h : k < L.length) (ht : (L.take k).all p = true) (hp : p L[k] = true) : (L.take (k + 1)).all p = true := by
  rw [List.take_succ_eq_append_getElem h, List.all_append, ht]; simp [hp]
theorem fsz_fV0 : fsz fV0 = 0 := rfl
theorem pVal_fsz (s : ByteArray) : fsz (pVal s) ≤ s.size + 1 := by
  unfold pVal parseB
  cases hp : partV s with
  | none => show fsz fV0 ≤ _; rw [fsz_fV0]; omega
  | some p =>
    obtain ⟨r, a⟩ := p
    by_cases ho : isFactB ⟨r, a⟩ = true
    · simp only [ho, if_true, oF, Option.getD_some]
      have hf := partV_fmt' hp
      have h := fmtF_size ⟨r, a⟩
      rw [hf, joinB_size, tlen_tsum] at h
      have : tCo.size = 1 := rfl
      rw [this] at h
      unfold fsz tsz
      simp only at h ⊢
      omega
    · simp only [ho]; show fsz fV0 ≤ _; rw [fsz_fV0]; omega
theorem parseFs_fssz (s : ByteArray) (hs : s.size ≤ 1048576) : fssz ((parseFs s).getD []) ≤ 4194304 := by
  unfold parseFs
  split
  · simp [fssz, fsum]
  · split
    · simp only [Option.getD_some]
      have h1 := pieces_len hs
      have hj := joinB_spB s tSp tSp_1
      have hz := joinB_size (spB s tSp) tSp
      rw [hj] at hz
      have h2 : ∀ L : List ByteArray, fsum (L.map pVal) ≤ tlen L + L.length := by
        intro L
        induction L with
        | nil => simp [fsum, tlen]
        | cons a r ih => have := pVal_fsz a; simp only [List.map_cons, fsum, tlen, List.length_cons]; omega
      have := h2 (spB s tSp)
      unfold fssz
      rw [List.length_map]
      omega
    · simp [fssz, fsum]
theorem ret_vb {v v' : Value} {b b' : Bool} (h1 : v = v') (h' : b = b') : Ending.returned (.tuple #[v, .bool b]) = .returned (.tuple #[v', .bool b']) := by rw [h1, h']
set_option maxHeartbeats 2000000 in
set_option maxRecDepth 100000 in
theorem cParseFs {s : ByteArray} {w : World} (hM : MxL w) (hs : s.size ≤ 1048576) :
    Calls Tryd.prog 18 #[.string s] w fun e w' => ∃ v', e = .returned (.tuple #[v', .bool (parseFs s).isSome]) ∧ Ob (SO 9 35) w' w.heap.size w'.heap.size v' ((parseFs s).getD []) ∧ Up w w' := by
  obtain ⟨i0, hi0, hz0, hz1, hz2⟩ := info_parts Tryd.infoFactQ
  have HM := Lib.hid hM
  cases hq : (s.toList == [45])
  rotate_left
  · have HE := Lib.hid (parseFs_dash hq)
    clear hM
    go_enter Tryd.func18, Tryd.ntmps18
    go_wp2_with fail
    go_ret2
    exact ⟨_, ret_vb rfl (by rw [HE.out]; rfl), ⟨by rw [HE.out]; exact SO.nil_ _ _ _ _ _, Nat.le_refl _⟩, Up.rf _⟩
  · have HQ := Lib.hid hq
    have hln := pieces_len hs
    have hl2 := spB_len s tSp tSp_1
    obtain ⟨m, hm⟩ := hM
    have HO := Lib.hid (TO.row_ 9 w (spB s tSp) (by omega))
    have HLn := Lib.hid hl2
    clear hl2
    go_enter Tryd.func18, Tryd.ntmps18
    go_wp2_with fail
    refine (Tryd.strings_Split s ⟨#[32]⟩ m _ (by omega) hm (by decide)).mono ?_
    rintro e w1 ⟨rfl, hw1⟩
    have HB : Hid (Up w w1) := by rw [hw1]; exact Up.al1 _ _
    rw [show (⟨#[32]⟩ : ByteArray) = tSp from rfl, ← HLn.out]
    have HL : Hid (Ob (TO 9) w1 w.heap.size w1.heap.size (.slice (some ⟨w.heap.size, 0, none⟩) (spB s tSp).length (spB s tSp).length) (spB s tSp)) := by rw [hw1]; exact ⟨HO.out, Nat.le_refl _⟩
    have HOut : Hid (SO 9 35 w1 w.heap.size w1.heap.size (.slice none 0 0) []) := SO.nil_ _ _ _ _ _
    clear hw1 HO
    generalize hLs : spB s tSp = Ls at *
    have HLs := Lib.hid hLs
    clear hq hLs
    go_wp2_with fail
    go_loopw [4, 14] (fun o i wr => ∃ (k : Nat), k ≤ Ls.length ∧ i = .int .i64 k ∧ Hid ((Ls.take k).all pOk = true) ∧ Up w wr ∧ Hid (SO 9 35 wr w.heap.size wr.heap.size o ((Ls.take k).map pVal)) ∧ Hid (Ob (TO 9) wr w.heap.size w1.heap.size (.slice (some ⟨w.heap.size, 0, none⟩) Ls.length Ls.length) Ls)) (fun _ i _ => Ls.length - (intOf i).toNat)
    case atStart => exact ⟨0, Nat.zero_le _, rfl, rfl, HB.out, HOut.out, HL.out⟩
    case round =>
      clear HOut HL
      obtain ⟨k, hk, rfl, HA, hb, HSO, HLr⟩ := hrel
      have i1 : (0 : Int) ≤ (k : Int) := by omega
      by_cases hlt : k < Ls.length
      · obtain ⟨b, off, e9, -, -, c0⟩ := HLr.out.tx.1.at hlt
        injection e9 with e9; injection e9 with e9a e9b; subst e9a e9b; simp only [Nat.zero_add] at c0
        have i2 : (k : Int) < (Ls.length : Int) := by omega
        have hpz : (Ls[k]).size ≤ 1048576 := by have h := pieces_size (s := s) (k := k) hs (by rw [HLs.out]; exact hlt); simpa [HLs.out] using h
        have HMap : Hid ((Ls.take (k + 1)).map pVal = (Ls.take k).map pVal ++ [pVal Ls[k]]) := map_take_succ hlt
        have HLen : Hid (((Ls.take k).map pVal).length = k) := by show _ = _; rw [List.length_map, List.length_take]; omega
        have hMr := HM.out.up hb
        go_wp2_with fail
        refine (cParseF hMr hpz).mono ?_
        rintro e w2 ⟨u, rfl, ho, b2⟩
        rw [show oF (parseB isFactB Ls[k]) = pVal Ls[k] from rfl] at ho
        rw [show (parseB isFactB Ls[k]).isSome = pOk Ls[k] from rfl]
        obtain ⟨a2, q2, rfl⟩ := ho.1.form
        clear hMr
        clear c0
        cases hp : pOk Ls[k]
        · have HE : Hid (parseFs s = none) := parseFs_no HQ.out (k := k) (by rw [HLs.out]; exact hlt) (by simpa [HLs.out] using hp)
          have HU := Lib.hid ((hb.tr b2).al (.cells #[.string (pVal Ls[k]).rel, .slice a2 (pVal Ls[k]).args.length q2] 35))
          clear b2 ho
          go_wp2
          go_ret2
          exact ⟨_, ret_vb rfl (by rw [HE.out]; rfl), ⟨by rw [HE.out]; exact SO.nil_ _ _ _ _ _, Nat.le_refl _⟩, HU.out⟩
        · have HA2 := Lib.hid (all_snoc_t hlt HA.out hp)
          obtain ⟨av, e3, hto⟩ := ho.1
          have e4 : av = .slice a2 (pVal Ls[k]).args.length q2 := by simpa using e3.symm
          subst e4
          obtain ⟨vs, hr, hown⟩ := HSO.out.rows
          have hW3 : Up w2 (w2.alloc (.cells #[.string (pVal Ls[k]).rel, .slice a2 (pVal Ls[k]).args.length q2] 35)) := Up.al1 _ _
          have hk3 := Blk.new w2 35 #[.string (pVal Ls[k]).rel, .slice a2 (pVal Ls[k]).args.length q2]
          have hz3 : (w2.alloc (.cells #[.string (pVal Ls[k]).rel, .slice a2 (pVal Ls[k]).args.length q2] 35)).heap.size = w2.heap.size + 1 := by simp
          have hw3 := b2.tr hW3
          have hown3 := Lib.hid (owns_below hown hw3)
          have HR3 := Lib.hid (hr.keep (Stays.of_below hw3 (Nat.le_refl _)))
          have HT := Lib.hid (hto.keep (Stays.of_below hW3 (Nat.le_refl _)))
          have HB3 := Lib.hid (hb.tr hw3)
          have hm1 := b2.size
          have hm3 := hb.size
          have HL3 := Lib.hid (HLr.out.up hw3)
          have d0 := hk3.cell0; have d1 := hk3.cell1
          clear ho hto hown hr b2 hb hW3 hw3 hk3
          generalize hpv : pVal Ls[k] = f at *
          have hn9 := news2 (Blk.new (w2.alloc (.cells #[.string f.rel, .slice a2 f.args.length q2] 35)) 35 #[.string f.rel, .slice a2 f.args.length q2])
          rw [hz3] at hn9
          have HN := Lib.hid hn9
          have hlk : ((Ls.take k).map pVal).length ≤ 1048577 := by have := HLen.out; omega
          have hbase : w.heap.size ≤ ((w2.alloc (.cells #[.string f.rel, .slice a2 f.args.length q2] 35)).alloc (.cells #[.string f.rel, .slice a2 f.args.length q2] 35)).heap.size := by simp; omega
          clear hn9
          go_wp2_with (at_builtin; refine wpList_append_own _ rfl _ _ 42 rfl w.heap.size 35 i0 _ 2 40 Tryd.underlying42 hi0 hz0 hz1 hz2 rfl (by decide) _ ((Ls.take k).map pVal).length (flatF ((Ls.take k).map pVal) vs) rfl (hown3.out.alloc _) ⟨w2.heap.size + 1, 0, none⟩ 1 1 [.string f.rel, .slice a2 f.args.length q2] rfl rfl HN.out (one2 rfl rfl) (by unfold maxLen; omega) (by omega) hbase ?_; intro v' w4 hown' hgrow _)
          have hS2 : Hid (SO 9 35 w4 w.heap.size w4.heap.size v' ((Ls.take (k + 1)).map pVal)) := by
            show SO _ _ _ _ _ _ _
            rw [HMap.out]
            exact SO.app1 (by decide) HR3.out hown3.out HT.out (by omega) (by omega) (by omega) hown' hgrow
          have hb2 : Up w w4 := (HB3.out.al _).grown hgrow (fun g hg => (hown3.out.lt g hg).1)
          have HL4 : Hid (Ob (TO 9) w4 w.heap.size w1.heap.size (.slice (some ⟨w.heap.size, 0, none⟩) Ls.length Ls.length) Ls) := ⟨⟨(HL3.out.1.1.alloc _).kept hgrow (row_ne HL3.out.1.1 hown3.out (by decide)), HL3.out.1.2⟩, by have := HL3.out.2; have := hgrow.size; simp at this; omega⟩
          clear HL3 HLr
          clear hown' hgrow hown3 HR3 HT HB3 HSO HN
          go_wp2
          exact ⟨⟨k+1, by omega, by go_num, HA2.out, hb2, hS2.out, HL4.out⟩, by simp [intOf]; omega⟩
      · have HE : Hid (parseFs s = some ((Ls.take k).map pVal)) := by show _ = _; rw [← HLs.out]; exact parseFs_all HQ.out (by rw [HLs.out]; omega) (by rw [HLs.out]; exact HA.out)
        go_wp2
        go_ret2
        exact ⟨_, ret_vb rfl (by rw [HE.out]; rfl), ⟨by rw [HE.out]; exact HSO.out, Nat.le_refl _⟩, hb⟩
end Go.Proofs.YtjaifoeagocapaaDoor
