/- The laws' own functions on lists of rules (size, equality). -/
import Derived.Test.YtojgkodffmdnpaaRule
namespace Go.Proofs.Ytojgkodffmdnpaa
open Go.RowKit
attribute [local go_sem ↓] Go.wp_at_zero Go.wp_at_succ
set_option linter.unusedVariables false
theorem SRu.at {w : World} {lo hi n cap k : Nat} {a : Option Addr} {L : List RuleV} (h : SL RuleC 4 w lo hi (.slice a n cap) L) (hk : k < L.length) :
    ∃ b off p cp r cr, a = some ⟨b, off, none⟩ ∧ w.cell? ⟨b, off + k * 4, none⟩ = some (.string L[k].name) ∧ w.cell? ⟨b, off + k * 4 + 1, none⟩ = some (.int .i64 L[k].prio) ∧ w.cell? ⟨b, off + k * 4 + 2, none⟩ = some (.slice p L[k].ifs.length cp) ∧ w.cell? ⟨b, off + k * 4 + 3, none⟩ = some (.slice r L[k].thens.length cr) ∧
      AR w lo hi (.agg #[.string L[k].name, .int .i64 L[k].prio, .slice p L[k].ifs.length cp, .slice r L[k].thens.length cr]) L[k] := by
  obtain ⟨b, off, cs, rfl, -, -, -, h4, iv, tv, rfl, h5, h6⟩ := SL.at h hk
  obtain ⟨p, cp, rfl⟩ := h5.form
  obtain ⟨r, cr, rfl⟩ := h6.form
  exact ⟨b, off, p, cp, r, cr, rfl, h4 0 (by omega), h4 1 (by omega), h4 2 (by omega), h4 3 (by omega), [_, _, _, _], rfl, _, _, rfl, h5, h6⟩
def rlsum : List RuleV → Nat
  | [] => 0
  | y :: t => rsz y + rlsum t
def rlsz (L : List RuleV) : Nat := L.length + rlsum L
theorem rlsum_append (A B : List RuleV) : rlsum (A ++ B) = rlsum A + rlsum B := by
  induction A with
  | nil => simp [rlsum]
  | cons a A ih => simp [rlsum, ih]; omega
theorem rlsum_take_succ (L : List RuleV) (k : Nat) (h : k < L.length) : rlsum (L.take (k + 1)) = rlsum (L.take k) + rsz L[k] := by
  rw [List.take_succ_eq_append_getElem h, rlsum_append]; simp [rlsum]
theorem rlsum_take_le (L : List RuleV) (k : Nat) : rlsum (L.take k) ≤ rlsum L := by
  conv => rhs; rw [← List.take_append_drop k L]
  rw [rlsum_append]; omega
theorem rlsum_mem {L : List RuleV} {f : RuleV} (h : f ∈ L) : rsz f ≤ rlsum L := by
  induction L with
  | nil => cases h
  | cons a L ih =>
    rcases List.mem_cons.1 h with rfl | h
    · simp [rlsum]
    · have := ih h; simp [rlsum]; omega
def okRs (L : List RuleV) : Prop := ∀ p ∈ L, okR p
instance : Kp (SL RuleC 4) := ⟨fun h hk => SLR.keep h hk⟩
set_option maxHeartbeats 1000000 in
theorem csz_rules {v : Value} {x : List RuleV} {left : Int} {lo hi : Nat} {w : World} (h : Ob (SL RuleC 4) w lo hi v x) (hok : okRs x) (h0 : 0 ≤ left) (h2 : left ≤ 1048576) :
    Calls Try.prog 41 #[v, .int .i64 left] w fun e w' => e = .returned (.int .i64 (szv left (rlsz x))) ∧ Up w w' := by
  have hlen := h.1.len
  obtain ⟨a, cap, rfl⟩ := h.1.form
  have HV := Lib.hid h
  clear h
  go_enter Try.func41, Try.ntmps41
  by_cases hl : (x.length : Int) ≤ left
  · go_wp2
    go_loopw [1, 5] (fun l i wr => ∃ (k : Nat) (m : Int), k ≤ x.length ∧ i = .int .i64 k ∧ l = .int .i64 m ∧ 0 ≤ m ∧ m ≤ 1048576 ∧ Hid (m = left - x.length - rlsum (x.take k)) ∧ Up w wr) (fun _ i _ => x.length - (intOf i).toNat)
    case atStart => exact ⟨0, _, Nat.zero_le _, rfl, rfl, by omega, by omega, by simp [Hid, rlsum], Up.rf w⟩
    case round =>
      obtain ⟨k, m, hk, rfl, rfl, hm0, hm1, H, hb⟩ := hrel
      by_cases hlt : k < x.length
      · obtain ⟨b, off, p, cp, r, cr, rfl, c0, c1, c2, c3, hA⟩ := SRu.at (HV.out.up hb).1 hlt
        have hsk := hok x[k] (List.getElem_mem hlt)
        have HT := Lib.hid (rlsum_take_succ x k hlt)
        have HL := Lib.hid (rlsum_take_le x (k+1))
        have HO : Hid (Ob AR wr lo hi (.agg #[.string x[k].name, .int .i64 x[k].prio, .slice p x[k].ifs.length cp, .slice r x[k].thens.length cr]) x[k]) := ⟨hA, Nat.le_trans HV.out.2 hb.size⟩
        clear hA
        go_wp2_with fail
        clear c0 c1 c2 c3
        refine (csz_rule HO.out hsk hm0 hm1).mono ?_
        rintro e w1 ⟨rfl, b1⟩
        have hb' := Up.tr hb b1
        clear b1 hb
        by_cases hm : ((rsz x[k] : Nat) : Int) ≤ m
        · rw [szv_pos hm]
          go_wp2
          exact ⟨⟨k+1, m - (rsz x[k] : Nat), by omega, by go_num, rfl, by omega, by omega, by have := H.out; have := HT.out; show _ = _; omega, hb'⟩, by simp [intOf]; omega⟩
        · rw [szv_neg (by omega)]
          go_wp2
          go_ret
          refine ⟨ret_int ?_, hb'⟩
          have := H.out; have := HT.out; have := HL.out
          rw [szv_neg (by unfold rlsz; omega)]
      · have HK : Hid (x.take k = x) := List.take_of_length_le (by omega)
        go_wp2
        go_ret
        refine ⟨ret_int ?_, hb⟩
        have h := H.out
        rw [HK.out] at h
        rw [szv_pos (by unfold rlsz; omega)]; unfold rlsz; omega
  · go_wp2
    go_ret
    refine ⟨ret_int ?_, Up.rf w⟩
    rw [szv_neg (by unfold rlsz; omega)]
set_option maxHeartbeats 1000000 in
theorem ceq_rules {v v' : Value} {x : List RuleV} {lo hi lo' hi' : Nat} {w : World} (h : Ob (SL RuleC 4) w lo hi v x) (h' : Ob (SL RuleC 4) w lo' hi' v' x) :
    Calls Try.prog 45 #[v, v'] w fun e w' => e = .returned (.bool true) ∧ Up w w' := by
  have hlen := h.1.len
  obtain ⟨a, cap, rfl⟩ := h.1.form
  obtain ⟨a', cap', rfl⟩ := h'.1.form
  have HV := Lib.hid h
  have HV' := Lib.hid h'
  clear h h'
  go_enter Try.func45, Try.ntmps45
  go_wp2
  go_loopw [5] (fun i wr => ∃ (k : Nat), k ≤ x.length ∧ i = .int .i64 k ∧ Up w wr) (fun i _ => x.length - (intOf i).toNat)
  case atStart => exact ⟨0, Nat.zero_le _, rfl, Up.rf w⟩
  case round =>
    obtain ⟨k, hk, rfl, hb⟩ := hrel
    by_cases hlt : k < x.length
    · obtain ⟨b, off, p, cp, r, cr, rfl, c0, c1, c2, c3, hA⟩ := SRu.at (HV.out.up hb).1 hlt
      obtain ⟨b', off', p', cp', r', cr', rfl, d0, d1, d2, d3, hA'⟩ := SRu.at (HV'.out.up hb).1 hlt
      have HO : Hid (Ob AR wr lo hi (.agg #[.string x[k].name, .int .i64 x[k].prio, .slice p x[k].ifs.length cp, .slice r x[k].thens.length cr]) x[k]) := ⟨hA, Nat.le_trans HV.out.2 hb.size⟩
      have HO' : Hid (Ob AR wr lo' hi' (.agg #[.string x[k].name, .int .i64 x[k].prio, .slice p' x[k].ifs.length cp', .slice r' x[k].thens.length cr']) x[k]) := ⟨hA', Nat.le_trans HV'.out.2 hb.size⟩
      clear hA hA'
      have i1 : (0 : Int) ≤ (k : Int) := by omega
      have i2 : (k : Int) < (x.length : Int) := by omega
      go_wp2_with fail
      go_region_held3 (fun w' => w'.cell? ⟨b, off + k * 4, none⟩ = some (.string x[k].name) ∧ w'.cell? ⟨b, off + k * 4 + 1, none⟩ = some (.int .i64 x[k].prio) ∧ w'.cell? ⟨b, off + k * 4 + 2, none⟩ = some (.slice p x[k].ifs.length cp) ∧ w'.cell? ⟨b, off + k * 4 + 3, none⟩ = some (.slice r x[k].thens.length cr) ∧ w'.cell? ⟨b', off' + k * 4, none⟩ = some (.string x[k].name) ∧ w'.cell? ⟨b', off' + k * 4 + 1, none⟩ = some (.int .i64 x[k].prio) ∧ w'.cell? ⟨b', off' + k * 4 + 2, none⟩ = some (.slice p' x[k].ifs.length cp') ∧ w'.cell? ⟨b', off' + k * 4 + 3, none⟩ = some (.slice r' x[k].thens.length cr') ∧ Up wr w')
        (first | exact ⟨c0, c1, c2, c3, d0, d1, d2, d3, (Up.rf _).dr⟩ | (have hh := ‹_ ∧ _ ∧ _ ∧ _ ∧ _ ∧ _ ∧ _ ∧ _ ∧ _›; have hb := ‹Up _ _›; exact ⟨keepCell hb hh.1, keepCell hb hh.2.1, keepCell hb hh.2.2.1, keepCell hb hh.2.2.2.1, keepCell hb hh.2.2.2.2.1, keepCell hb hh.2.2.2.2.2.1, keepCell hb hh.2.2.2.2.2.2.1, keepCell hb hh.2.2.2.2.2.2.2.1, hh.2.2.2.2.2.2.2.2.tr hb⟩))
        (first | (go_at_call 35; have hh := ‹_ ∧ _ ∧ _ ∧ _ ∧ _ ∧ _ ∧ _ ∧ _ ∧ _›; (with_reducible refine (ceq_rule (HO.out.up hh.2.2.2.2.2.2.2.2) (HO'.out.up hh.2.2.2.2.2.2.2.2)).mono ?_); clear hh; rintro e w1 ⟨rfl, b1⟩))
      have hb' : Up w w1 := hb.dr.tr b1
      clear b1 hb c0 c1 c2 c3 d0 d1 d2 d3
      go_wp2
      exact ⟨⟨k+1, by omega, by go_num, hb'⟩, by simp [intOf]; omega⟩
    · go_wp2
      go_ret
      exact ⟨rfl, hb⟩
end Go.Proofs.Ytojgkodffmdnpaa
