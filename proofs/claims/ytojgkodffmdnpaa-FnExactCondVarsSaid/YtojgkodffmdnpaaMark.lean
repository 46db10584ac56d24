/- The contracts of the laws' own functions that mark texts, facts, pairs and conditions and that ask whether the marks are held; wherever the lengths can be counted. -/
import Derived.Test.YtojgkodffmdnpaaApp
import Derived.Test.YtojgkodffmdnpaaCond
namespace Go.Proofs.Ytojgkodffmdnpaa
open Go.RowKit
attribute [local go_sem ↓] Go.wp_at_zero Go.wp_at_succ
set_option linter.unusedVariables false
def mkT (x : List ByteArray) (k : Nat) : List ByteArray := markL k x.length
def ctT (x : List ByteArray) : Nat := x.length
def mkF (f : FactV) (k : Nat) : FactV := ⟨f.rel, markL k f.args.length⟩
def ctF (f : FactV) : Nat := f.args.length
def mkC (c : CondV) (k : Nat) : CondV := ⟨c.kind, mkF c.pat k, c.left, c.right⟩
def ctC (c : CondV) : Nat := c.pat.args.length
def mkPs : Nat → Nat → List (ByteArray × ByteArray)
  | _, 0 => []
  | k, n + 1 => (markTxt k, markTxt (k + 1)) :: mkPs (k + 2) n
def mkP (x : List (ByteArray × ByteArray)) (k : Nat) : List (ByteArray × ByteArray) := mkPs k x.length
def ctP (x : List (ByteArray × ByteArray)) : Nat := 2 * x.length
theorem mkPs_len (k n : Nat) : (mkPs k n).length = n := by
  induction n generalizing k with
  | zero => rfl
  | succ n ih => simp [mkPs, ih]
theorem mkPs_get (k n i : Nat) (h : i < n) : (mkPs k n)[i]'(by rw [mkPs_len]; exact h) = (markTxt (k + 2 * i), markTxt (k + 2 * i + 1)) := by
  induction n generalizing k i with
  | zero => omega
  | succ n ih =>
    cases i with
    | zero => rfl
    | succ i => simp only [mkPs, List.getElem_cons_succ]; rw [ih (k+2) i (by omega), show k + 2 + 2 * i = k + 2 * (i + 1) by omega]
theorem mkP_len (x : List (ByteArray × ByteArray)) (k : Nat) : (mkP x k).length = x.length := mkPs_len _ _
def ctFs : List FactV → Nat
  | [] => 0
  | f :: r => 1 + f.args.length + ctFs r
def mkFs : List FactV → Nat → List FactV
  | [], _ => []
  | f :: r, k => ⟨markTxt k, markL (k + 1) f.args.length⟩ :: mkFs r (k + 1 + f.args.length)
theorem ctFs_append (A B : List FactV) : ctFs (A ++ B) = ctFs A + ctFs B := by
  induction A with
  | nil => simp [ctFs]
  | cons f r ih => simp only [List.cons_append, ctFs, ih]; omega
theorem mkFs_append (A B : List FactV) (k : Nat) : mkFs (A ++ B) k = mkFs A k ++ mkFs B (k + ctFs A) := by
  induction A generalizing k with
  | nil => simp [mkFs, ctFs]
  | cons f r ih => simp only [List.cons_append, mkFs, ih, ctFs]; rw [show k + 1 + f.args.length + ctFs r = k + (1 + f.args.length + ctFs r) by omega]
theorem mkFs_len (A : List FactV) (k : Nat) : (mkFs A k).length = A.length := by
  induction A generalizing k with
  | nil => rfl
  | cons f r ih => simp [mkFs, ih]
theorem ctFs_take_succ (L : List FactV) (k : Nat) (h : k < L.length) : ctFs (L.take (k + 1)) = ctFs (L.take k) + 1 + L[k].args.length := by
  rw [List.take_succ_eq_append_getElem h, ctFs_append]; simp [ctFs]; omega
theorem ctFs_take_le (L : List FactV) (k : Nat) : ctFs (L.take k) ≤ ctFs L := by
  conv => rhs; rw [← List.take_append_drop k L]
  rw [ctFs_append]; omega
theorem mkFs_get (L : List FactV) (k0 i : Nat) (h : i < L.length) : (mkFs L k0)[i]'(by rw [mkFs_len]; exact h) = ⟨markTxt (k0 + ctFs (L.take i)), markL (k0 + ctFs (L.take i) + 1) L[i].args.length⟩ := by
  induction L generalizing k0 i with
  | nil => simp at h
  | cons f r ih =>
    cases i with
    | zero => simp [mkFs, ctFs]
    | succ i =>
      simp only [mkFs, List.getElem_cons_succ, List.take_succ_cons, ctFs]
      rw [ih _ i (by simpa using h)]
      rw [show k0 + 1 + f.args.length + ctFs (r.take i) = k0 + (1 + f.args.length + ctFs (r.take i)) by omega]
def midFs (L : List FactV) (k0 k : Nat) : List FactV := mkFs (L.take k) k0 ++ L.drop k
theorem midFs_0 (L : List FactV) (k0 : Nat) : midFs L k0 0 = L := by simp [midFs, mkFs]
theorem midFs_end (L : List FactV) (k0 k : Nat) (h : L.length ≤ k) : midFs L k0 k = mkFs L k0 := by simp [midFs, List.take_of_length_le h, List.drop_of_length_le h]
theorem midFs_len (L : List FactV) (k0 k : Nat) : (midFs L k0 k).length = L.length := by simp [midFs, mkFs_len]; omega
theorem midFs_get (L : List FactV) (k0 k : Nat) (h : k < L.length) : (midFs L k0 k)[k]'(by rw [midFs_len]; exact h) = L[k] := by
  unfold midFs
  rw [List.getElem_append_right (by simp [mkFs_len]; omega)]
  simp [mkFs_len, Nat.min_eq_left (Nat.le_of_lt h)]
theorem midFs_set (L : List FactV) (k0 k : Nat) (h : k < L.length) : (midFs L k0 k).set k ⟨markTxt (k0 + ctFs (L.take k)), markL (k0 + ctFs (L.take k) + 1) L[k].args.length⟩ = midFs L k0 (k + 1) := by
  unfold midFs
  rw [List.take_succ_eq_append_getElem h, mkFs_append, List.set_append_right _ _ (by simp [mkFs_len]; omega)]
  simp only [mkFs_len, List.length_take, Nat.min_eq_left (Nat.le_of_lt h), Nat.sub_self, mkFs, List.append_assoc]
  rw [List.drop_eq_getElem_cons h]
  rfl
theorem zr_le {a b : Nat} (h : a ≤ b) (hb : b ≤ 4194304) : a ≤ 4194304 := Nat.le_trans h hb
theorem ctT_le {x : List ByteArray} (h : tsz x ≤ 4194304) : ctT x ≤ 4194304 := by unfold tsz at h; unfold ctT; omega
theorem ctF_le {x : FactV} (h : fsz x ≤ 4194304) : ctF x ≤ 4194304 := by unfold fsz tsz at h; unfold ctF; omega
theorem ctP_le {x : List (ByteArray × ByteArray)} (h : psz x ≤ 4194304) : ctP x ≤ 8388608 := by unfold psz at h; unfold ctP; omega
theorem ctFs_fsum (L : List FactV) : ctFs L ≤ L.length + fsum L := by
  induction L with
  | nil => simp [ctFs]
  | cons f r ih => simp only [ctFs, fsum, List.length_cons]; unfold fsz tsz; omega
theorem ctFs_le {x : List FactV} (h : fssz x ≤ 4194304) : ctFs x ≤ 4194304 := by have := ctFs_fsum x; unfold fssz at h; omega
theorem cmk_texts {v : Value} {x : List ByteArray} {k lo hi : Nat} {w : World} (h : Ob (TO 9) w lo hi v x) (h1 : 1 ≤ k) (h2 : k + ctT x ≤ 1000000000) :
    Calls Try.prog 65 #[v, .int .i64 k] w fun e w' => e = .returned (.int .i64 (k + ctT x : Nat)) ∧ Ob (TO 9) w' lo hi v (mkT x k) ∧ Chg lo hi w w' :=
  (markT_any v x k lo hi w h.1 h1 h2).mono fun e w' ⟨a, b, c⟩ => by
    have hc : Chg lo hi w w' := Chg.grown c (fun g hg => h.1.own hg)
    exact ⟨a, ⟨b, Nat.le_trans h.2 hc.size⟩, hc⟩
theorem chd_texts {v : Value} {x : List ByteArray} {k lo hi : Nat} {w : World} (h : Ob TX w lo hi v (mkT x k)) (h1 : 1 ≤ k) (h2 : k + ctT x ≤ 1000000000) :
    Calls Try.prog 66 #[v, .int .i64 k] w fun e w' => e = .returned (.int .i64 (k + ctT x : Nat)) ∧ Up w w' := heldT_any v x.length k lo hi w h.1 h.2 h1 h2
set_option maxHeartbeats 400000 in
theorem cmk_fact {v : Value} {x : FactV} {k lo hi : Nat} {w : World} (h : Ob (FO 9) w lo hi v x) (h1 : 1 ≤ k) (h2 : k + ctF x ≤ 1000000000) :
    Calls Try.prog 53 #[v, .int .i64 k] w fun e w' => e = .returned (.int .i64 (k + ctF x : Nat)) ∧ Ob (FO 9) w' lo hi v (mkF x k) ∧ Chg lo hi w w' := by
  obtain ⟨⟨av, rfl, ht⟩, hh⟩ := h
  have HB := Lib.hid (Up.al1 w (.cells #[.string x.rel, av] 79))
  have HO : Hid (Ob (TO 9) w lo hi av x.args) := ⟨ht, hh⟩
  clear ht hh
  go_enter Try.func53, Try.ntmps53
  go_wp2_with fail
  refine (cmk_texts (HO.out.up HB.out) h1 h2).mono ?_
  rintro e w1 ⟨rfl, ho, hc⟩
  have HR : Hid (Ob (FO 9) w1 lo hi (.agg #[.string x.rel, av]) (mkF x k) ∧ Chg lo hi w w1) := ⟨⟨⟨av, rfl, ho.1⟩, ho.2⟩, (HB.out.chg lo hi).tr hc⟩
  clear ho hc
  go_wp2
  go_ret
  exact ⟨rfl, HR.out⟩
set_option maxHeartbeats 400000 in
theorem cmk_pat {v : Value} {x : FactV} {k lo hi : Nat} {w : World} (h : Ob (FO 9) w lo hi v x) (h1 : 1 ≤ k) (h2 : k + ctF x ≤ 1000000000) :
    Calls Try.prog 52 #[v, .int .i64 k] w fun e w' => e = .returned (.int .i64 (k + ctF x : Nat)) ∧ Ob (FO 9) w' lo hi v (mkF x k) ∧ Chg lo hi w w' := by
  obtain ⟨⟨av, rfl, ht⟩, hh⟩ := h
  have HB := Lib.hid (Up.al1 w (.cells #[.string x.rel, av] 30))
  have HO : Hid (Ob (TO 9) w lo hi av x.args) := ⟨ht, hh⟩
  clear ht hh
  go_enter Try.func52, Try.ntmps52
  go_wp2_with fail
  refine (cmk_texts (HO.out.up HB.out) h1 h2).mono ?_
  rintro e w1 ⟨rfl, ho, hc⟩
  have HR : Hid (Ob (FO 9) w1 lo hi (.agg #[.string x.rel, av]) (mkF x k) ∧ Chg lo hi w w1) := ⟨⟨⟨av, rfl, ho.1⟩, ho.2⟩, (HB.out.chg lo hi).tr hc⟩
  clear ho hc
  go_wp2
  go_ret
  exact ⟨rfl, HR.out⟩
set_option maxHeartbeats 400000 in
theorem chd_fact {v : Value} {x : FactV} {k lo hi : Nat} {w : World} (h : Ob AF w lo hi v (mkF x k)) (h1 : 1 ≤ k) (h2 : k + ctF x ≤ 1000000000) :
    Calls Try.prog 54 #[v, .int .i64 k] w fun e w' => e = .returned (.int .i64 (k + ctF x : Nat)) ∧ Up w w' := by
  obtain ⟨⟨_, rfl, av, rfl, ht⟩, hh⟩ := h
  have HB := Lib.hid (Up.al1 w (.cells #[.string x.rel, av] 79))
  have HO : Hid (Ob TX w lo hi av (mkT x.args k)) := ⟨ht, hh⟩
  have i0 : (0 : Int) ≤ (k + ctT x.args : Nat) := by omega
  clear ht hh
  go_enter Try.func54, Try.ntmps54
  go_wp2_with fail
  refine (chd_texts (HO.out.up HB.out) h1 h2).mono ?_
  rintro e w1 ⟨rfl, hb⟩
  have HB2 := Lib.hid (HB.out.tr hb)
  clear hb
  go_wp2
  go_ret
  exact ⟨rfl, HB2.out⟩
set_option maxHeartbeats 400000 in
theorem chd_pat {v : Value} {x : FactV} {k lo hi : Nat} {w : World} (h : Ob AF w lo hi v (mkF x k)) (h1 : 1 ≤ k) (h2 : k + ctF x ≤ 1000000000) :
    Calls Try.prog 83 #[v, .int .i64 k] w fun e w' => e = .returned (.int .i64 (k + ctF x : Nat)) ∧ Up w w' := by
  obtain ⟨⟨_, rfl, av, rfl, ht⟩, hh⟩ := h
  have HB := Lib.hid (Up.al1 w (.cells #[.string x.rel, av] 30))
  have HO : Hid (Ob TX w lo hi av (mkT x.args k)) := ⟨ht, hh⟩
  have i0 : (0 : Int) ≤ (k + ctT x.args : Nat) := by omega
  clear ht hh
  go_enter Try.func83, Try.ntmps83
  go_wp2_with fail
  refine (chd_texts (HO.out.up HB.out) h1 h2).mono ?_
  rintro e w1 ⟨rfl, hb⟩
  have HB2 := Lib.hid (HB.out.tr hb)
  clear hb
  go_wp2
  go_ret
  exact ⟨rfl, HB2.out⟩
theorem ctC_le {x : CondV} (h : csz x ≤ 4194304) : ctC x ≤ 4194304 := by unfold csz fsz tsz at h; unfold ctC; omega
set_option maxHeartbeats 400000 in
theorem cmk_cond {v : Value} {x : CondV} {k lo hi : Nat} {w : World} (h : Ob (CO 9) w lo hi v x) (h1 : 1 ≤ k) (h2 : k + ctC x ≤ 1000000000) :
    Calls Try.prog 23 #[v, .int .i64 k] w fun e w' => e = .returned (.int .i64 (k + ctC x : Nat)) ∧ Ob (CO 9) w' lo hi v (mkC x k) ∧ Chg lo hi w w' := by
  obtain ⟨⟨av, rfl, ht⟩, hh⟩ := h
  have HB := Lib.hid (Up.al1 w (.cells #[.int .i64 x.kind, .string x.pat.rel, av, .string x.left, .string x.right] 32))
  have HO : Hid (Ob (FO 9) w lo hi (.agg #[.string x.pat.rel, av]) x.pat) := ⟨⟨av, rfl, ht⟩, hh⟩
  clear ht hh
  go_enter Try.func23, Try.ntmps23
  go_wp2_with fail
  refine (cmk_pat (HO.out.up HB.out) h1 h2).mono ?_
  rintro e w1 ⟨rfl, ⟨⟨av', e', ho⟩, hz⟩, hc⟩
  simp only [Value.agg.injEq] at e'
  have HR : Hid (Ob (CO 9) w1 lo hi (.agg #[.int .i64 x.kind, .string x.pat.rel, av, .string x.left, .string x.right]) (mkC x k) ∧ Chg lo hi w w1) := by
    obtain rfl : av = av' := by have := e'; simp at this; exact this.2
    exact ⟨⟨⟨av, rfl, ho⟩, hz⟩, (HB.out.chg lo hi).tr hc⟩
  clear ho hc e' hz
  go_wp2
  go_ret
  exact ⟨rfl, HR.out⟩
set_option maxHeartbeats 400000 in
theorem chd_cond {v : Value} {x : CondV} {k lo hi : Nat} {w : World} (h : Ob AC w lo hi v (mkC x k)) (h1 : 1 ≤ k) (h2 : k + ctC x ≤ 1000000000) :
    Calls Try.prog 25 #[v, .int .i64 k] w fun e w' => e = .returned (.int .i64 (k + ctC x : Nat)) ∧ Up w w' := by
  obtain ⟨⟨_, rfl, av, rfl, ht⟩, hh⟩ := h
  have HB := Lib.hid (Up.al1 w (.cells #[.int .i64 x.kind, .string x.pat.rel, av, .string x.left, .string x.right] 32))
  have HO : Hid (Ob AF w lo hi (.agg #[.string x.pat.rel, av]) (mkF x.pat k)) := ⟨⟨[_, _], rfl, av, rfl, ht⟩, hh⟩
  have i0 : (0 : Int) ≤ (k + ctF x.pat : Nat) := by omega
  clear ht hh
  go_enter Try.func25, Try.ntmps25
  go_wp2_with fail
  refine (chd_pat (HO.out.up HB.out) h1 h2).mono ?_
  rintro e w1 ⟨rfl, hb⟩
  have HB2 := Lib.hid (HB.out.tr hb)
  clear hb
  go_wp2
  go_ret
  exact ⟨rfl, HB2.out⟩
set_option maxHeartbeats 1000000 in
theorem cmk_pairs {v : Value} {x : List (ByteArray × ByteArray)} {k0 lo hi : Nat} {w : World} (h : Ob (PO 111) w lo hi v x) (h1 : 1 ≤ k0) (h2 : k0 + ctP x ≤ 1000000000) :
    Calls Try.prog 24 #[v, .int .i64 k0] w fun e w' => e = .returned (.int .i64 (k0 + ctP x : Nat)) ∧ Ob (PO 111) w' lo hi v (mkP x k0) ∧ Chg lo hi w w' := by
  obtain ⟨⟨hown, hbd⟩, hh⟩ := h
  have hle : x.length ≤ 1000000000 := by unfold ctP at h2; omega
  have HH := Lib.hid hh
  have HC : Hid (k0 + 2 * x.length ≤ 1000000000) := h2
  clear hh h2
  by_cases hz : x.length = 0
  · obtain rfl : x = [] := List.eq_nil_of_length_eq_zero hz
    have HV : Hid (Ob (PO 111) w lo hi v []) := ⟨⟨hown, hbd⟩, HH.out⟩
    obtain ⟨a, cap, rfl, -⟩ := HV.out.1.sp
    clear hown hbd hz
    go_enter Try.func24, Try.ntmps24
    go_wp2
    go_loop [1, 5] (fun q i => q = .int .i64 k0 ∧ i = .int .i64 0) (fun _ _ => 0)
    case atStart => exact ⟨rfl, rfl⟩
    case round =>
      obtain ⟨rfl, rfl⟩ := hrel
      go_wp2
      go_ret
      exact ⟨rfl, HV.out, (Up.rf w).chg _ _⟩
  · obtain ⟨g, cap, rfl, hlg, hg⟩ := hown.form (by omega)
    have HG : Hid (g < hi) := hbd g rfl
    have HL := Lib.hid hlg
    clear hbd hlg hz
    go_enter Try.func24, Try.ntmps24
    go_wp2
    go_loopw [1, 5] (fun q i wr => ∃ (k : Nat), k ≤ x.length ∧ i = .int .i64 k ∧ q = .int .i64 (k0 + 2 * k : Nat) ∧ w.grownBy wr (some g) ∧ ∃ xs, wr.ownsRow lo 111 2 (.slice (some ⟨g, 0, none⟩) x.length cap) x.length xs ∧ Hid (xs.take (k * 2) = (flatP (mkP x k0)).take (k * 2))) (fun _ i _ => x.length - (intOf i).toNat)
    case atStart => exact ⟨0, Nat.zero_le _, rfl, rfl, World.grownBy.refl _ _, _, hown, by simp [Hid]⟩
    case round =>
      clear hown
      obtain ⟨k, hk, rfl, rfl, hgr, xs, hown, hxs⟩ := hrel
      by_cases hlt : k < x.length
      · have i1 : (0 : Int) ≤ (k : Int) := by omega
        have i2 : (k : Int) < (x.length : Int) := by omega
        have j1 : 1 ≤ k0 + 2 * k := by omega
        have j2 : k0 + 2 * k ≤ 1000000000 := by have := HC.out; omega
        have j3 : k0 + 2 * k + 1 ≤ 1000000000 := by have := HC.out; omega
        have hlx := hown.1
        have HX : Hid (((xs.set (k * 2) (.string (markTxt (k0 + 2 * k)))).set (k * 2 + 1) (.string (markTxt (k0 + 2 * k + 1)))).take ((k + 1) * 2) = (flatP (mkP x k0)).take ((k + 1) * 2)) := by
          have g0 := flatP_get0 (mkP x k0) k (by rw [mkP_len]; exact hlt)
          have g1 := flatP_get1 (mkP x k0) k (by rw [mkP_len]; exact hlt)
          have ge : (mkP x k0)[k]'(by rw [mkP_len]; exact hlt) = _ := mkPs_get k0 x.length k hlt
          rw [ge] at g0 g1
          have h1 := set_take_succ hxs.out (by omega) g0
          have h2 := set_take_succ h1 (by simp; omega) g1
          rw [show (k + 1) * 2 = k * 2 + 1 + 1 by omega]; exact h2
        clear hxs hlx
        go_wp2_with fail
        refine (markText_any (k0 + 2 * k) _ j1 (by omega)).mono ?_
        rintro e w1 ⟨rfl, hb1⟩
        have hown1 := owns_below hown hb1
        have hgr1 := grown_below hgr hb1
        obtain ⟨x2, c2⟩ := ownsRow_ex hown1 (k * 2) (by omega)
        have c3 := hown1.frozenAt (k * 2)
        have HS := Lib.hid (hown1.stored (k * 2) (.string (markTxt (k0 + 2 * k))))
        have HGR := Lib.hid (grown_trans hgr1 HS.out.2)
        clear hown1 hown hgr hb1 hgr1
        go_wp2_with fail
        refine (markText_any (k0 + 2 * k + 1) _ (by omega) (by omega)).mono ?_
        rintro e w2 ⟨rfl, hb2⟩
        have hown2 := owns_below HS.out.1 hb2
        have hgr2 := grown_below HGR.out hb2
        clear c2 c3 HS HGR
        obtain ⟨x2, c2⟩ := ownsRow_ex hown2 (k * 2 + 1) (by omega)
        have c3 := hown2.frozenAt (k * 2 + 1)
        have HS := Lib.hid (hown2.stored (k * 2 + 1) (.string (markTxt (k0 + 2 * k + 1))))
        have HGR := Lib.hid (grown_trans hgr2 HS.out.2)
        clear hown2 hgr2 hb2
        go_wp2
        exact ⟨⟨k+1, by omega, by go_num, by go_num, HGR.out, _, HS.out.1, HX⟩, by simp [intOf]; omega⟩
      · obtain rfl : k = x.length := by omega
        go_wp2
        go_ret
        have hl := hown.1
        have e : xs = flatP (mkP x k0) := by
          have h := hxs.out
          rwa [List.take_of_length_le (by omega), List.take_of_length_le (by rw [flatP_len, mkP_len]; omega)] at h
        subst e
        have hgl : ∀ g', some g = some g' → lo ≤ g' ∧ g' < hi := by
          intro g' hg'
          obtain rfl : g = g' := by simpa using hg'
          exact ⟨HL.out, HG.out⟩
        have hc : Chg lo hi w wr := Chg.grown hgr hgl
        refine ⟨rfl, ⟨⟨by rw [mkP_len]; exact hown, ?_⟩, Nat.le_trans HH.out hc.size⟩, hc⟩
        intro g' hg'
        obtain rfl : g = g' := by simpa [Value.ownBlock] using hg'
        exact HG.out
set_option maxHeartbeats 1000000 in
theorem chd_pairs {v : Value} {x : List (ByteArray × ByteArray)} {k0 lo hi : Nat} {w : World} (h : Ob SP w lo hi v (mkP x k0)) (h1 : 1 ≤ k0) (h2 : k0 + ctP x ≤ 1000000000) :
    Calls Try.prog 59 #[v, .int .i64 k0] w fun e w' => e = .returned (.int .i64 (k0 + ctP x : Nat)) ∧ Up w w' := by
  have hle : x.length ≤ 1000000000 := by unfold ctP at h2; omega
  have HC : Hid (k0 + 2 * x.length ≤ 1000000000) := h2
  obtain ⟨a, cap, e0⟩ := h.1.form
  rw [mkP_len] at e0
  subst e0
  have HV := Lib.hid h
  clear h h2
  go_enter Try.func59, Try.ntmps59
  go_wp2
  go_loopw [1, 5] (fun q i wr => ∃ (k : Nat), k ≤ x.length ∧ i = .int .i64 k ∧ q = .int .i64 (k0 + 2 * k : Nat) ∧ Up w wr) (fun _ i _ => x.length - (intOf i).toNat)
  case atStart => exact ⟨0, Nat.zero_le _, rfl, rfl, Up.rf w⟩
  case round =>
    obtain ⟨k, hk, rfl, rfl, hb⟩ := hrel
    by_cases hlt : k < x.length
    · obtain ⟨b, off, rfl, c0, c1⟩ := SP.at (HV.out.up hb).1 (show k < (mkP x k0).length by rw [mkP_len]; exact hlt)
      have ge : (mkP x k0)[k]'(by rw [mkP_len]; exact hlt) = _ := mkPs_get k0 x.length k hlt
      rw [ge] at c0 c1
      clear ge
      have i1 : (0 : Int) ≤ (k : Int) := by omega
      have i2 : (k : Int) < (x.length : Int) := by omega
      have j1 : 1 ≤ k0 + 2 * k := by omega
      have j3 : k0 + 2 * k + 1 ≤ 1000000000 := by have := HC.out; omega
      go_wp2_with fail
      go_region_held3 (fun w' => w'.cell? ⟨b, off + k * 2, none⟩ = some (.string (markTxt (k0 + 2 * k))) ∧ w'.cell? ⟨b, off + k * 2 + 1, none⟩ = some (.string (markTxt (k0 + 2 * k + 1))))
        (first | exact ⟨c0, c1⟩ | (have hh := ‹_ ∧ _›; have hb := ‹Up _ _›; exact ⟨keepCell hb hh.1, keepCell hb hh.2⟩))
        (first | (go_at_call 82; refine (markText_any (k0 + 2 * k) _ j1 (by omega)).mono ?_; rintro e w1 ⟨rfl, b1⟩))
      have hb' : Up w w1 := hb.dr.tr b1
      clear b1 hb c0 c1
      obtain ⟨b', off', e9, c0, c1⟩ := SP.at (HV.out.up hb').1 (show k < (mkP x k0).length by rw [mkP_len]; exact hlt)
      injection e9 with e9
      injection e9 with e9a e9b
      subst e9a e9b
      have ge : (mkP x k0)[k]'(by rw [mkP_len]; exact hlt) = _ := mkPs_get k0 x.length k hlt
      rw [ge] at c0 c1
      clear ge
      go_wp2_with fail
      go_region_held3 (fun w' => w'.cell? ⟨b, off + k * 2, none⟩ = some (.string (markTxt (k0 + 2 * k))) ∧ w'.cell? ⟨b, off + k * 2 + 1, none⟩ = some (.string (markTxt (k0 + 2 * k + 1))))
        (first | exact ⟨c0, c1⟩ | (have hh := ‹_ ∧ _›; have hb := ‹Up _ _›; exact ⟨keepCell hb hh.1, keepCell hb hh.2⟩))
        (first | (go_at_call 82; refine (markText_any (k0 + 2 * k + 1) _ (by omega) (by omega)).mono ?_; rintro e w2 ⟨rfl, b1⟩))
      have hb2 : Up w w2 := hb'.dr.tr b1
      clear b1 hb' c0 c1
      go_wp2
      exact ⟨⟨k+1, by omega, by go_num, by go_num, hb2⟩, by simp [intOf]; omega⟩
    · go_wp2
      go_ret
      obtain rfl : k = x.length := by omega
      exact ⟨rfl, hb⟩
end Go.Proofs.Ytojgkodffmdnpaa
