/- The laws' own functions on lists of conditions and of actions (size, equality); a row of structs that is being filled. -/
import Derived.Test.YtojgkodffmdnpaaCond2
namespace Go.Proofs.Ytojgkodffmdnpaa
open Go.RowKit
attribute [local go_sem ↓] Go.wp_at_zero Go.wp_at_succ
set_option linter.unusedVariables false
/- the cells xs hold L's elements as far as L goes -/
instance : Kp (SL CondC 5) := ⟨fun h hk => SLC.keep h hk⟩
instance : Kp (SL ActC 3) := ⟨fun h hk => SLA.keep h hk⟩
def Fil {α : Type} (R : World → Nat → Nat → List Value → α → Prop) (size : Nat) (w : World) (lo hi : Nat) (xs : List Value) (L : List α) : Prop :=
  ∀ i (h : i < L.length), ∃ cs, cs.length = size ∧ (∀ j, j < size → xs[i * size + j]? = cs[j]?) ∧ R w lo hi cs L[i]
section
variable {α : Type} {R : World → Nat → Nat → List Value → α → Prop} {size : Nat} {w w' : World} {lo hi lo' hi' : Nat} {xs ys : List Value} {L : List α}
theorem Fil.nil : Fil R size w lo hi xs [] := fun i h => by simp at h
theorem Fil.imp (h : Fil R size w lo hi xs L) (hR : ∀ cs a, R w lo hi cs a → R w' lo' hi' cs a) : Fil R size w' lo' hi' xs L := fun i hi => by
  obtain ⟨cs, h1, h2, h3⟩ := h i hi; exact ⟨cs, h1, h2, hR _ _ h3⟩
theorem Fil.snoc {a : α} {cs : List Value} (h : Fil R size w lo hi xs L) (hlow : ∀ m, m < L.length * size → ys[m]? = xs[m]?) (hc : cs.length = size) (hnew : ∀ j, j < size → ys[L.length * size + j]? = cs[j]?) (hR : R w lo hi cs a) : Fil R size w lo hi ys (L ++ [a]) := fun i hi => by
  by_cases hlt : i < L.length
  · obtain ⟨ds, h1, h2, h3⟩ := h i hlt
    refine ⟨ds, h1, fun j hj => ?_, by rw [List.getElem_append_left hlt]; exact h3⟩
    have h4 : (i + 1) * size ≤ L.length * size := Nat.mul_le_mul_right size hlt
    rw [Nat.add_mul, Nat.one_mul] at h4
    rw [hlow _ (by omega)]; exact h2 j hj
  · obtain rfl : i = L.length := by simp at hi; omega
    exact ⟨cs, hc, hnew, by rw [List.getElem_append_right (Nat.le_refl _)]; simpa using hR⟩
theorem Fil.sl {E : TypeId} {v : Value} (h : Fil R size w lo hi xs L) (hown : w.ownsRow lo E size v L.length xs) (hh : ∀ g, v.ownBlock = some g → g < hi) : SL R size w lo hi v L :=
  owns_sl hown hh h
end
def csum : List CondV → Nat
  | [] => 0
  | p :: r => csz p + csum r
def cssz (L : List CondV) : Nat := L.length + csum L
theorem csum_append (A B : List CondV) : csum (A ++ B) = csum A + csum B := by
  induction A with
  | nil => simp [csum]
  | cons a A ih => simp [csum, ih]; omega
theorem csum_take_succ (L : List CondV) (k : Nat) (h : k < L.length) : csum (L.take (k + 1)) = csum (L.take k) + csz L[k] := by
  rw [List.take_succ_eq_append_getElem h, csum_append]; simp [csum]
theorem csum_take_le (L : List CondV) (k : Nat) : csum (L.take k) ≤ csum L := by
  conv => rhs; rw [← List.take_append_drop k L]
  rw [csum_append]; omega
theorem csum_mem {L : List CondV} {f : CondV} (h : f ∈ L) : csz f ≤ csum L := by
  induction L with
  | nil => cases h
  | cons a L ih =>
    rcases List.mem_cons.1 h with rfl | h
    · simp [csum]
    · have := ih h; simp [csum]; omega
def okCs (L : List CondV) : Prop := ∀ p ∈ L, okC p
set_option maxHeartbeats 1000000 in
theorem csz_conds {v : Value} {x : List CondV} {left : Int} {lo hi : Nat} {w : World} (h : Ob (SL CondC 5) w lo hi v x) (hok : okCs x) (h0 : 0 ≤ left) (h2 : left ≤ 1048576) :
    Calls Try.prog 88 #[v, .int .i64 left] w fun e w' => e = .returned (.int .i64 (szv left (cssz x))) ∧ Up w w' := by
  have hlen := h.1.len
  obtain ⟨a, cap, rfl⟩ := h.1.form
  have HV := Lib.hid h
  clear h
  go_enter Try.func88, Try.ntmps88
  by_cases hl : (x.length : Int) ≤ left
  · go_wp2
    go_loopw [1, 5] (fun l i wr => ∃ (k : Nat) (m : Int), k ≤ x.length ∧ i = .int .i64 k ∧ l = .int .i64 m ∧ 0 ≤ m ∧ m ≤ 1048576 ∧ Hid (m = left - x.length - csum (x.take k)) ∧ Up w wr) (fun _ i _ => x.length - (intOf i).toNat)
    case atStart => exact ⟨0, _, Nat.zero_le _, rfl, rfl, by omega, by omega, by simp [Hid, csum], Up.rf w⟩
    case round =>
      obtain ⟨k, m, hk, rfl, rfl, hm0, hm1, H, hb⟩ := hrel
      by_cases hlt : k < x.length
      · obtain ⟨b, off, d, c, rfl, c0, c1, c2, c3, c4, hA⟩ := SC.at (HV.out.up hb).1 hlt
        have hsk := hok x[k] (List.getElem_mem hlt)
        have HT := Lib.hid (csum_take_succ x k hlt)
        have HL := Lib.hid (csum_take_le x (k+1))
        have HO : Hid (Ob AC wr lo hi (.agg #[.int .i64 x[k].kind, .string x[k].pat.rel, .slice d x[k].pat.args.length c, .string x[k].left, .string x[k].right]) x[k]) := ⟨hA, Nat.le_trans HV.out.2 hb.size⟩
        clear hA
        go_wp2_with fail
        clear c0 c1 c2 c3 c4
        refine (csz_cond HO.out hsk hm0 hm1).mono ?_
        rintro e w1 ⟨rfl, b1⟩
        have hb' := Up.tr hb b1
        clear b1 hb
        by_cases hm : ((csz x[k] : Nat) : Int) ≤ m
        · rw [szv_pos hm]
          go_wp2
          exact ⟨⟨k+1, m - (csz x[k] : Nat), by omega, by go_num, rfl, by omega, by omega, by have := H.out; have := HT.out; show _ = _; omega, hb'⟩, by simp [intOf]; omega⟩
        · rw [szv_neg (by omega)]
          go_wp2
          go_ret
          refine ⟨ret_int ?_, hb'⟩
          have := H.out; have := HT.out; have := HL.out
          rw [szv_neg (by unfold cssz; omega)]
      · have HK : Hid (x.take k = x) := List.take_of_length_le (by omega)
        go_wp2
        go_ret
        refine ⟨ret_int ?_, hb⟩
        have h := H.out
        rw [HK.out] at h
        rw [szv_pos (by unfold cssz; omega)]; unfold cssz; omega
  · go_wp2
    go_ret
    refine ⟨ret_int ?_, Up.rf w⟩
    rw [szv_neg (by unfold cssz; omega)]
set_option maxHeartbeats 1000000 in
theorem ceq_conds {v v' : Value} {x : List CondV} {lo hi lo' hi' : Nat} {w : World} (h : Ob (SL CondC 5) w lo hi v x) (h' : Ob (SL CondC 5) w lo' hi' v' x) :
    Calls Try.prog 94 #[v, v'] w fun e w' => e = .returned (.bool true) ∧ Up w w' := by
  have hlen := h.1.len
  obtain ⟨a, cap, rfl⟩ := h.1.form
  obtain ⟨a', cap', rfl⟩ := h'.1.form
  have HV := Lib.hid h
  have HV' := Lib.hid h'
  clear h h'
  go_enter Try.func94, Try.ntmps94
  go_wp2
  go_loopw [5] (fun i wr => ∃ (k : Nat), k ≤ x.length ∧ i = .int .i64 k ∧ Up w wr) (fun i _ => x.length - (intOf i).toNat)
  case atStart => exact ⟨0, Nat.zero_le _, rfl, Up.rf w⟩
  case round =>
    obtain ⟨k, hk, rfl, hb⟩ := hrel
    by_cases hlt : k < x.length
    · obtain ⟨b, off, d, c, rfl, c0, c1, c2, c3, c4, hA⟩ := SC.at (HV.out.up hb).1 hlt
      obtain ⟨b', off', d', c', rfl, d0, d1, d2, d3, d4, hA'⟩ := SC.at (HV'.out.up hb).1 hlt
      have HO : Hid (Ob AC wr lo hi (.agg #[.int .i64 x[k].kind, .string x[k].pat.rel, .slice d x[k].pat.args.length c, .string x[k].left, .string x[k].right]) x[k]) := ⟨hA, Nat.le_trans HV.out.2 hb.size⟩
      have HO' : Hid (Ob AC wr lo' hi' (.agg #[.int .i64 x[k].kind, .string x[k].pat.rel, .slice d' x[k].pat.args.length c', .string x[k].left, .string x[k].right]) x[k]) := ⟨hA', Nat.le_trans HV'.out.2 hb.size⟩
      clear hA hA'
      have i1 : (0 : Int) ≤ (k : Int) := by omega
      have i2 : (k : Int) < (x.length : Int) := by omega
      go_wp2_with fail
      go_region_held3 (fun w' => w'.cell? ⟨b, off + k * 5, none⟩ = some (.int .i64 x[k].kind) ∧ w'.cell? ⟨b, off + k * 5 + 1, none⟩ = some (.string x[k].pat.rel) ∧ w'.cell? ⟨b, off + k * 5 + 2, none⟩ = some (.slice d x[k].pat.args.length c) ∧ w'.cell? ⟨b, off + k * 5 + 3, none⟩ = some (.string x[k].left) ∧ w'.cell? ⟨b, off + k * 5 + 4, none⟩ = some (.string x[k].right) ∧ w'.cell? ⟨b', off' + k * 5, none⟩ = some (.int .i64 x[k].kind) ∧ w'.cell? ⟨b', off' + k * 5 + 1, none⟩ = some (.string x[k].pat.rel) ∧ w'.cell? ⟨b', off' + k * 5 + 2, none⟩ = some (.slice d' x[k].pat.args.length c') ∧ w'.cell? ⟨b', off' + k * 5 + 3, none⟩ = some (.string x[k].left) ∧ w'.cell? ⟨b', off' + k * 5 + 4, none⟩ = some (.string x[k].right) ∧ Up wr w')
        (first | exact ⟨c0, c1, c2, c3, c4, d0, d1, d2, d3, d4, (Up.rf _).dr⟩ | (have hh := ‹_ ∧ _ ∧ _ ∧ _ ∧ _ ∧ _ ∧ _ ∧ _ ∧ _ ∧ _ ∧ _›; have hb := ‹Up _ _›; exact ⟨keepCell hb hh.1, keepCell hb hh.2.1, keepCell hb hh.2.2.1, keepCell hb hh.2.2.2.1, keepCell hb hh.2.2.2.2.1, keepCell hb hh.2.2.2.2.2.1, keepCell hb hh.2.2.2.2.2.2.1, keepCell hb hh.2.2.2.2.2.2.2.1, keepCell hb hh.2.2.2.2.2.2.2.2.1, keepCell hb hh.2.2.2.2.2.2.2.2.2.1, hh.2.2.2.2.2.2.2.2.2.2.tr hb⟩))
        (first | (go_at_call 21; have hh := ‹_ ∧ _ ∧ _ ∧ _ ∧ _ ∧ _ ∧ _ ∧ _ ∧ _ ∧ _ ∧ _›; (with_reducible refine (ceq_cond (HO.out.up hh.2.2.2.2.2.2.2.2.2.2) (HO'.out.up hh.2.2.2.2.2.2.2.2.2.2)).mono ?_); clear hh; rintro e w1 ⟨rfl, b1⟩))
      have hb' : Up w w1 := hb.dr.tr b1
      clear b1 hb c0 c1 c2 c3 c4 d0 d1 d2 d3 d4
      go_wp2
      exact ⟨⟨k+1, by omega, by go_num, hb'⟩, by simp [intOf]; omega⟩
    · go_wp2
      go_ret
      exact ⟨rfl, hb⟩
def asum : List ActV → Nat
  | [] => 0
  | p :: r => asz p + asum r
def assz (L : List ActV) : Nat := L.length + asum L
theorem asum_append (A B : List ActV) : asum (A ++ B) = asum A + asum B := by
  induction A with
  | nil => simp [asum]
  | cons a A ih => simp [asum, ih]; omega
theorem asum_take_succ (L : List ActV) (k : Nat) (h : k < L.length) : asum (L.take (k + 1)) = asum (L.take k) + asz L[k] := by
  rw [List.take_succ_eq_append_getElem h, asum_append]; simp [asum]
theorem asum_take_le (L : List ActV) (k : Nat) : asum (L.take k) ≤ asum L := by
  conv => rhs; rw [← List.take_append_drop k L]
  rw [asum_append]; omega
theorem asum_mem {L : List ActV} {f : ActV} (h : f ∈ L) : asz f ≤ asum L := by
  induction L with
  | nil => cases h
  | cons a L ih =>
    rcases List.mem_cons.1 h with rfl | h
    · simp [asum]
    · have := ih h; simp [asum]; omega
def okAs (L : List ActV) : Prop := ∀ p ∈ L, okA p
set_option maxHeartbeats 1000000 in
theorem csz_acts {v : Value} {x : List ActV} {left : Int} {lo hi : Nat} {w : World} (h : Ob (SL ActC 3) w lo hi v x) (hok : okAs x) (h0 : 0 ≤ left) (h2 : left ≤ 1048576) :
    Calls Try.prog 89 #[v, .int .i64 left] w fun e w' => e = .returned (.int .i64 (szv left (assz x))) ∧ Up w w' := by
  have hlen := h.1.len
  obtain ⟨a, cap, rfl⟩ := h.1.form
  have HV := Lib.hid h
  clear h
  go_enter Try.func89, Try.ntmps89
  by_cases hl : (x.length : Int) ≤ left
  · go_wp2
    go_loopw [1, 5] (fun l i wr => ∃ (k : Nat) (m : Int), k ≤ x.length ∧ i = .int .i64 k ∧ l = .int .i64 m ∧ 0 ≤ m ∧ m ≤ 1048576 ∧ Hid (m = left - x.length - asum (x.take k)) ∧ Up w wr) (fun _ i _ => x.length - (intOf i).toNat)
    case atStart => exact ⟨0, _, Nat.zero_le _, rfl, rfl, by omega, by omega, by simp [Hid, asum], Up.rf w⟩
    case round =>
      obtain ⟨k, m, hk, rfl, rfl, hm0, hm1, H, hb⟩ := hrel
      by_cases hlt : k < x.length
      · obtain ⟨b, off, d, c, rfl, c0, c1, c2, hA⟩ := SA.at (HV.out.up hb).1 hlt
        have hsk := hok x[k] (List.getElem_mem hlt)
        have HT := Lib.hid (asum_take_succ x k hlt)
        have HL := Lib.hid (asum_take_le x (k+1))
        have HO : Hid (Ob AA wr lo hi (.agg #[.int .i64 x[k].kind, .string x[k].pat.rel, .slice d x[k].pat.args.length c]) x[k]) := ⟨hA, Nat.le_trans HV.out.2 hb.size⟩
        clear hA
        go_wp2_with fail
        clear c0 c1 c2
        refine (csz_act HO.out hsk hm0 hm1).mono ?_
        rintro e w1 ⟨rfl, b1⟩
        have hb' := Up.tr hb b1
        clear b1 hb
        by_cases hm : ((asz x[k] : Nat) : Int) ≤ m
        · rw [szv_pos hm]
          go_wp2
          exact ⟨⟨k+1, m - (asz x[k] : Nat), by omega, by go_num, rfl, by omega, by omega, by have := H.out; have := HT.out; show _ = _; omega, hb'⟩, by simp [intOf]; omega⟩
        · rw [szv_neg (by omega)]
          go_wp2
          go_ret
          refine ⟨ret_int ?_, hb'⟩
          have := H.out; have := HT.out; have := HL.out
          rw [szv_neg (by unfold assz; omega)]
      · have HK : Hid (x.take k = x) := List.take_of_length_le (by omega)
        go_wp2
        go_ret
        refine ⟨ret_int ?_, hb⟩
        have h := H.out
        rw [HK.out] at h
        rw [szv_pos (by unfold assz; omega)]; unfold assz; omega
  · go_wp2
    go_ret
    refine ⟨ret_int ?_, Up.rf w⟩
    rw [szv_neg (by unfold assz; omega)]
set_option maxHeartbeats 1000000 in
theorem ceq_acts {v v' : Value} {x : List ActV} {lo hi lo' hi' : Nat} {w : World} (h : Ob (SL ActC 3) w lo hi v x) (h' : Ob (SL ActC 3) w lo' hi' v' x) :
    Calls Try.prog 95 #[v, v'] w fun e w' => e = .returned (.bool true) ∧ Up w w' := by
  have hlen := h.1.len
  obtain ⟨a, cap, rfl⟩ := h.1.form
  obtain ⟨a', cap', rfl⟩ := h'.1.form
  have HV := Lib.hid h
  have HV' := Lib.hid h'
  clear h h'
  go_enter Try.func95, Try.ntmps95
  go_wp2
  go_loopw [5] (fun i wr => ∃ (k : Nat), k ≤ x.length ∧ i = .int .i64 k ∧ Up w wr) (fun i _ => x.length - (intOf i).toNat)
  case atStart => exact ⟨0, Nat.zero_le _, rfl, Up.rf w⟩
  case round =>
    obtain ⟨k, hk, rfl, hb⟩ := hrel
    by_cases hlt : k < x.length
    · obtain ⟨b, off, d, c, rfl, c0, c1, c2, hA⟩ := SA.at (HV.out.up hb).1 hlt
      obtain ⟨b', off', d', c', rfl, d0, d1, d2, hA'⟩ := SA.at (HV'.out.up hb).1 hlt
      have HO : Hid (Ob AA wr lo hi (.agg #[.int .i64 x[k].kind, .string x[k].pat.rel, .slice d x[k].pat.args.length c]) x[k]) := ⟨hA, Nat.le_trans HV.out.2 hb.size⟩
      have HO' : Hid (Ob AA wr lo' hi' (.agg #[.int .i64 x[k].kind, .string x[k].pat.rel, .slice d' x[k].pat.args.length c']) x[k]) := ⟨hA', Nat.le_trans HV'.out.2 hb.size⟩
      clear hA hA'
      have i1 : (0 : Int) ≤ (k : Int) := by omega
      have i2 : (k : Int) < (x.length : Int) := by omega
      go_wp2_with fail
      go_region_held3 (fun w' => w'.cell? ⟨b, off + k * 3, none⟩ = some (.int .i64 x[k].kind) ∧ w'.cell? ⟨b, off + k * 3 + 1, none⟩ = some (.string x[k].pat.rel) ∧ w'.cell? ⟨b, off + k * 3 + 2, none⟩ = some (.slice d x[k].pat.args.length c) ∧ w'.cell? ⟨b', off' + k * 3, none⟩ = some (.int .i64 x[k].kind) ∧ w'.cell? ⟨b', off' + k * 3 + 1, none⟩ = some (.string x[k].pat.rel) ∧ w'.cell? ⟨b', off' + k * 3 + 2, none⟩ = some (.slice d' x[k].pat.args.length c') ∧ Up wr w')
        (first | exact ⟨c0, c1, c2, d0, d1, d2, (Up.rf _).dr⟩ | (have hh := ‹_ ∧ _ ∧ _ ∧ _ ∧ _ ∧ _ ∧ _›; have hb := ‹Up _ _›; exact ⟨keepCell hb hh.1, keepCell hb hh.2.1, keepCell hb hh.2.2.1, keepCell hb hh.2.2.2.1, keepCell hb hh.2.2.2.2.1, keepCell hb hh.2.2.2.2.2.1, hh.2.2.2.2.2.2.tr hb⟩))
        (first | (go_at_call 40; have hh := ‹_ ∧ _ ∧ _ ∧ _ ∧ _ ∧ _ ∧ _›; (with_reducible refine (ceq_act (HO.out.up hh.2.2.2.2.2.2) (HO'.out.up hh.2.2.2.2.2.2)).mono ?_); clear hh; rintro e w1 ⟨rfl, b1⟩))
      have hb' : Up w w1 := hb.dr.tr b1
      clear b1 hb c0 c1 c2 d0 d1 d2
      go_wp2
      exact ⟨⟨k+1, by omega, by go_num, hb'⟩, by simp [intOf]; omega⟩
    · go_wp2
      go_ret
      exact ⟨rfl, hb⟩
end Go.Proofs.Ytojgkodffmdnpaa
