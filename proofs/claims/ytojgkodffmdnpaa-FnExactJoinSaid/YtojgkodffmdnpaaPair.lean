/- The contracts of the laws' own functions on pairs and lists of pairs: size, copy, equality, marks; wherever the lengths can be counted. -/
import Derived.Test.YtojgkodffmdnpaaC1
namespace Go.Proofs.Ytojgkodffmdnpaa
open Go.RowKit
attribute [local go_sem ↓] Go.wp_at_zero Go.wp_at_succ
def psz1 (p : ByteArray × ByteArray) : Nat := p.1.size + p.2.size
def psum : List (ByteArray × ByteArray) → Nat
  | [] => 0
  | p :: r => psz1 p + psum r
def psz (L : List (ByteArray × ByteArray)) : Nat := L.length + psum L
theorem psum_append (A B : List (ByteArray × ByteArray)) : psum (A ++ B) = psum A + psum B := by
  induction A with
  | nil => simp [psum]
  | cons a A ih => simp [psum, ih]; omega
theorem psum_take_succ (L : List (ByteArray × ByteArray)) (k : Nat) (h : k < L.length) : psum (L.take (k + 1)) = psum (L.take k) + psz1 L[k] := by
  rw [List.take_succ_eq_append_getElem h, psum_append]; simp [psum]
theorem psum_take_le (L : List (ByteArray × ByteArray)) (k : Nat) : psum (L.take k) ≤ psum L := by
  conv => rhs; rw [← List.take_append_drop k L]
  rw [psum_append]; omega
def okPs (L : List (ByteArray × ByteArray)) : Prop := ∀ p ∈ L, okP p
set_option maxHeartbeats 400000 in
theorem szPair_any (p : ByteArray × ByteArray) (left : Int) (w : World) (hok : okP p) (h0 : 0 ≤ left) (h2 : left ≤ 1048576) :
    Calls Try.prog 77 #[.agg #[.string p.1, .string p.2], .int .i64 left] w fun e w' => e = .returned (.int .i64 (szv left (psz1 p))) ∧ Up w w' := by
  obtain ⟨o1, o2⟩ := hok
  unfold okS at o1 o2
  have HB : Hid (Up w (w.alloc (.cells #[.string p.1, .string p.2] 109))) := Up.al1 _ _
  go_enter Try.func77, Try.ntmps77
  by_cases h : (p.1.size : Int) ≤ left
  · by_cases h' : (p.2.size : Int) ≤ left - p.1.size
    · have HF := Lib.hid (szv_pos (left := left) (n := psz1 p) (by unfold psz1; omega))
      go_wp2
      go_ret
      exact ⟨ret_int (by rw [HF.out]; unfold psz1; omega), HB.out⟩
    · have HF := Lib.hid (szv_neg (left := left) (n := psz1 p) (by unfold psz1; omega))
      go_wp2
      go_ret
      exact ⟨ret_int HF.out.symm, HB.out⟩
  · have HF := Lib.hid (szv_neg (left := left) (n := psz1 p) (by unfold psz1; omega))
    go_wp2
    go_ret
    exact ⟨ret_int HF.out.symm, HB.out⟩
set_option maxHeartbeats 400000 in
theorem csz_pairs {v : Value} {x : List (ByteArray × ByteArray)} {left : Int} {lo hi : Nat} {w : World} (h : Ob SP w lo hi v x) (hok : okPs x) (h0 : 0 ≤ left) (h2 : left ≤ 1048576) :
    Calls Try.prog 16 #[v, .int .i64 left] w fun e w' => e = .returned (.int .i64 (szv left (psz x))) ∧ Up w w' := by
  have hlen := h.1.len
  obtain ⟨a, cap, rfl⟩ := h.1.form
  have HV := Lib.hid h
  clear h
  go_enter Try.func16, Try.ntmps16
  by_cases hl : (x.length : Int) ≤ left
  · go_wp2
    go_loopw [1, 5] (fun l i wr => ∃ (k : Nat) (m : Int), k ≤ x.length ∧ i = .int .i64 k ∧ l = .int .i64 m ∧ 0 ≤ m ∧ m ≤ 1048576 ∧ Hid (m = left - x.length - psum (x.take k)) ∧ Up w wr) (fun _ i _ => x.length - (intOf i).toNat)
    case atStart => exact ⟨0, _, Nat.zero_le _, rfl, rfl, by omega, by omega, by simp [Hid, psum], Up.rf w⟩
    case round =>
      obtain ⟨k, m, hk, rfl, rfl, hm0, hm1, H, hb⟩ := hrel
      by_cases hlt : k < x.length
      · obtain ⟨b, off, rfl, c0, c1⟩ := SP.at (HV.out.up hb).1 hlt
        have hsk := hok x[k] (List.getElem_mem hlt)
        have HT := Lib.hid (psum_take_succ x k hlt)
        have HL := Lib.hid (psum_take_le x (k+1))
        go_wp2_with fail
        clear c0 c1
        refine (szPair_any x[k] m _ hsk hm0 hm1).mono ?_
        rintro e w1 ⟨rfl, b1⟩
        have hb' := Up.tr hb b1
        clear b1 hb
        by_cases hm : ((psz1 x[k] : Nat) : Int) ≤ m
        · rw [szv_pos hm]
          go_wp2
          exact ⟨⟨k+1, m - (psz1 x[k] : Nat), by omega, by go_num, rfl, by omega, by omega, by have := H.out; have := HT.out; show _ = _; omega, hb'⟩, by simp [intOf]; omega⟩
        · rw [szv_neg (by omega)]
          go_wp2
          go_ret
          refine ⟨ret_int ?_, hb'⟩
          have := H.out; have := HT.out; have := HL.out
          rw [szv_neg (by unfold psz; omega)]
      · have HK : Hid (x.take k = x) := List.take_of_length_le (by omega)
        go_wp2
        go_ret
        refine ⟨ret_int ?_, hb⟩
        have h := H.out
        rw [HK.out] at h
        rw [szv_pos (by unfold psz; omega)]; unfold psz; omega
  · go_wp2
    go_ret
    refine ⟨ret_int ?_, Up.rf w⟩
    rw [szv_neg (by unfold psz; omega)]
set_option maxHeartbeats 400000 in
theorem toPair_any (p : ByteArray × ByteArray) (w : World) :
    Calls Try.prog 79 #[.agg #[.string p.1, .string p.2]] w fun e w' => e = .returned (.agg #[.string p.1, .string p.2]) ∧ Up w w' := by
  go_enter Try.func79, Try.ntmps79
  go_wp2
  refine bodyPost_ret (v := .agg #[.string p.1, .string p.2]) (by simp [results, Try.results79, go_sem]) rfl ⟨rfl, ?_⟩
  exact ((Up.al1 _ _).al _).al _
theorem Try.infoPair : (Try.prog.info? 111).map (fun i => (i.zero, i.size, i.bytes)) = some (some (.agg #[.string ByteArray.empty, .string ByteArray.empty]), 2, 32) := by kernel_rfl
set_option maxHeartbeats 400000 in
theorem cto_pairs {v : Value} {x : List (ByteArray × ByteArray)} {lo hi : Nat} {w : World} (h : Ob SP w lo hi v x) (hz : psz x ≤ 1048576) :
    Calls Try.prog 19 #[v] w fun e w' => ∃ v', e = .returned v' ∧ Ob (PO 111) w' w.heap.size w'.heap.size v' x ∧ Up w w' := by
  have hlen := h.1.len
  obtain ⟨a, cap, rfl⟩ := h.1.form
  have HV := Lib.hid h
  clear h
  have hx : x.length ≤ 1048576 := by unfold psz at hz; omega
  clear hz
  obtain ⟨i0, hi0, hz0, hz1, hz2⟩ := info_parts Try.infoPair
  go_enter Try.func19, Try.ntmps19
  go_wp2_with (at_make; refine wpList_make_full _ rfl _ _ 35 rfl w.heap.size 111 i0 _ 2 Try.underlying35 hi0 hz0 hz1 .i64 .i64 _ _ x.length rfl rfl rfl rfl (by rw [hz2]; omega) (by unfold maxLen; omega) (Nat.le_refl _) ?_; intro w1 hown hgrow)
  have hbel : Below w.heap.size w w1 := (Below.refl _ _).grown hgrow (Nat.le_refl _) (by simp)
  clear hgrow
  generalize hG : w.heap.size = G at *
  have HG := Lib.hid hG; clear hG
  go_loopw [4] (fun i wr => ∃ (k : Nat), k ≤ x.length ∧ i = .int .i64 k ∧ Below G w wr ∧ G < wr.heap.size ∧ ∃ xs, wr.ownsRow G 111 2 (.slice (some ⟨G, 0, none⟩) x.length x.length) x.length xs ∧ Hid (xs.take (k * 2) = (flatP x).take (k * 2))) (fun i _ => x.length - (intOf i).toNat)
  case atStart => exact ⟨0, Nat.zero_le _, rfl, hbel, (hown.lt G rfl).2, _, hown, by simp [Hid]⟩
  case round =>
    clear hown hbel
    obtain ⟨k, hk, rfl, hb, hGs, xs, hown, hxs⟩ := hrel
    by_cases hlt : k < x.length
    · obtain ⟨b, off, rfl, c0, c1⟩ := SP.at (HV.out.up (show Up w wr from by show Below w.heap.size w wr; rw [HG.out]; exact hb)).1 hlt
      have i1 : (0 : Int) ≤ (k : Int) := by omega
      have i2 : (k : Int) < (x.length : Int) := by omega
      go_wp2_with fail
      clear c0 c1
      refine (toPair_any x[k] _).mono ?_
      rintro e w2 ⟨rfl, b2⟩
      have hown2 := owns_below hown b2
      have hb2 : Below G w w2 := hb.trans (b2.mono (by omega))
      have hG2 : G < w2.heap.size := Nat.lt_of_lt_of_le hGs b2.size
      obtain ⟨y0, c0⟩ := ownsRow_ex hown2 (k * 2) (by omega)
      obtain ⟨y1, c1⟩ := ownsRow_ex hown2 (k * 2 + 1) (by omega)
      have f0 := hown2.frozenAt (k * 2)
      have f1 := hown2.frozenAt (k * 2 + 1)
      have hl := hown2.1
      have HS := Lib.hid ((hown2.stored (k * 2) (.string x[k].1)).1.stored (k * 2 + 1) (.string x[k].2)).1
      have HX : Hid (((xs.set (k * 2) (.string x[k].1)).set (k * 2 + 1) (.string x[k].2)).take ((k + 1) * 2) = (flatP x).take ((k + 1) * 2)) := by
        have h1 := set_take_succ hxs.out (by omega) (flatP_get0 x k hlt)
        have h2 := set_take_succ h1 (by simp; omega) (flatP_get1 x k hlt)
        rw [show (k + 1) * 2 = k * 2 + 1 + 1 by omega]; exact h2
      clear hown2 hown hxs hl b2 hb hGs
      go_wp2
      refine ⟨⟨k+1, by omega, by go_num, (hb2.setCell (p := ⟨G, k * 2, none⟩) (Nat.le_refl _) _).setCell (p := ⟨G, k * 2 + 1, none⟩) (Nat.le_refl _) _, by simpa [World.setCell] using hG2, _, HS.out, HX⟩, by simp [intOf]; omega⟩
    · go_wp2
      go_ret
      have := hown.1
      have e : xs = flatP x := by
        have h := hxs.out
        rwa [List.take_of_length_le (by omega), List.take_of_length_le (by rw [flatP_len]; omega)] at h
      subst e
      have hg := HG.out
      subst hg
      exact ⟨_, rfl, ⟨⟨hown, fun g hg => (hown.lt g hg).2⟩, Nat.le_refl _⟩, hb⟩
set_option maxHeartbeats 400000 in
theorem eqPair_any (p : ByteArray × ByteArray) (w : World) :
    Calls Try.prog 81 #[.agg #[.string p.1, .string p.2], .agg #[.string p.1, .string p.2]] w fun e w' => e = .returned (.bool true) ∧ Up w w' := by
  have HB : Hid (Up w ((w.alloc (.cells #[.string p.1, .string p.2] 111)).alloc (.cells #[.string p.1, .string p.2] 111))) := (Up.al1 _ _).al _
  go_enter Try.func81, Try.ntmps81
  go_wp2
  go_ret
  exact ⟨rfl, HB.out⟩
set_option maxHeartbeats 400000 in
theorem ceq_pairs {v v' : Value} {x : List (ByteArray × ByteArray)} {lo hi lo' hi' : Nat} {w : World} (h : Ob SP w lo hi v x) (h' : Ob SP w lo' hi' v' x) :
    Calls Try.prog 22 #[v, v'] w fun e w' => e = .returned (.bool true) ∧ Up w w' := by
  have hlen := h.1.len
  obtain ⟨a, cap, rfl⟩ := h.1.form
  obtain ⟨a', cap', rfl⟩ := h'.1.form
  have HV := Lib.hid h
  have HV' := Lib.hid h'
  clear h h'
  go_enter Try.func22, Try.ntmps22
  go_wp2
  go_loopw [5] (fun i wr => ∃ (k : Nat), k ≤ x.length ∧ i = .int .i64 k ∧ Up w wr) (fun i _ => x.length - (intOf i).toNat)
  case atStart => exact ⟨0, Nat.zero_le _, rfl, Up.rf w⟩
  case round =>
    obtain ⟨k, hk, rfl, hb⟩ := hrel
    by_cases hlt : k < x.length
    · obtain ⟨b, off, rfl, c0, c1⟩ := SP.at (HV.out.up hb).1 hlt
      obtain ⟨b', off', rfl, d0, d1⟩ := SP.at (HV'.out.up hb).1 hlt
      have i1 : (0 : Int) ≤ (k : Int) := by omega
      have i2 : (k : Int) < (x.length : Int) := by omega
      go_wp2_with fail
      go_region_held3 (fun w' => w'.cell? ⟨b, off + k * 2, none⟩ = some (.string x[k].1) ∧ w'.cell? ⟨b, off + k * 2 + 1, none⟩ = some (.string x[k].2) ∧ w'.cell? ⟨b', off' + k * 2, none⟩ = some (.string x[k].1) ∧ w'.cell? ⟨b', off' + k * 2 + 1, none⟩ = some (.string x[k].2))
        (first | exact ⟨c0, c1, d0, d1⟩ | (have hh := ‹_ ∧ _ ∧ _ ∧ _›; have hb := ‹Up _ _›; exact ⟨keepCell hb hh.1, keepCell hb hh.2.1, keepCell hb hh.2.2.1, keepCell hb hh.2.2.2⟩))
        (first | (go_at_call 81; (with_reducible refine (eqPair_any x[k] _).mono ?_); rintro e w1 ⟨rfl, b1⟩))
      have hb' : Up w w1 := hb.dr.tr b1
      clear b1 hb c0 c1 d0 d1
      go_wp2
      exact ⟨⟨k+1, by omega, by go_num, hb'⟩, by simp [intOf]; omega⟩
    · go_wp2
      go_ret
      exact ⟨rfl, hb⟩
end Go.Proofs.Ytojgkodffmdnpaa
