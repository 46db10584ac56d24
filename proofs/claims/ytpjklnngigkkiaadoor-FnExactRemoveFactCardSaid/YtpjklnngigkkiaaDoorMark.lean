/- The contracts of the laws' own functions that mark texts, facts, pairs and conditions and that ask whether the marks are held; wherever the lengths can be counted. -/
import Derived.Test.YtpjklnngigkkiaaDoorApp
import Derived.Test.YtpjklnngigkkiaaDoorCond
namespace Go.Proofs.YtpjklnngigkkiaaDoor
open Go.RowKit
attribute [local go_sem ↓] Go.wp_at_zero Go.wp_at_succ
set_option linter.unusedVariables false
def mkT (x : List ByteArray) (k : Nat) : List ByteArray := markL k x.length
def ctT (x : List ByteArray) : Nat := x.length
def mkF (f : FactV) (k : Nat) : FactV := ⟨f.rel, markL k f.args.length⟩
def ctF (f : FactV) : Nat := f.args.length
def mkC (c : CondV) (k : Nat) : CondV := ⟨c.kind, mkF c.pat k, c.left, c.right⟩
def ctC (c : CondV) : Nat := c.pat.args.length
def mkPs : Nat → Nat → List (ByteArray × ByteArray)
  | _, 0 => []
  | k, n + 1 => (markTxt k, markTxt (k + 1)) :: mkPs (k + 2) n
def mkP (x : List (ByteArray × ByteArray)) (k : Nat) : List (ByteArray × ByteArray) := mkPs k x.length
def ctP (x : List (ByteArray × ByteArray)) : Nat := 2 * x.length
theorem mkPs_len (k n : Nat) : (mkPs k n).length = n := by
  induction n generalizing k with
  | zero => rfl
  | succ n ih => simp [mkPs, ih]
theorem mkPs_get (k n i : Nat) (h : i < n) : (mkPs k n)[i]'(by rw [mkPs_len]; exact h) = (markTxt (k + 2 * i), markTxt (k + 2 * i + 1)) := by
  induction n generalizing k i with
  | zero => omega
  | succ n ih =>
    cases i with
    | zero => rfl
    | succ i => simp only [mkPs, List.getElem_cons_succ]; rw [ih (k+2) i (by omega), show k + 2 + 2 * i = k + 2 * (i + 1) by omega]
theorem mkP_len (x : List (ByteArray × ByteArray)) (k : Nat) : (mkP x k).length = x.length := mkPs_len _ _
def ctFs : List FactV → Nat
  | [] => 0
  | f :: r => 1 + f.args.length + ctFs r
def mkFs : List FactV → Nat → List FactV
  | [], _ => []
  | f :: r, k => ⟨markTxt k, markL (k + 1) f.args.length⟩ :: mkFs r (k + 1 + f.args.length)
theorem ctFs_append (A B : List FactV) : ctFs (A ++ B) = ctFs A + ctFs B := by
  induction A with
  | nil => simp [ctFs]
  | cons f r ih => simp only [List.cons_append, ctFs, ih]; omega
theorem mkFs_append (A B : List FactV) (k : Nat) : mkFs (A ++ B) k = mkFs A k ++ mkFs B (k + ctFs A) := by
  induction A generalizing k with
  | nil => simp [mkFs, ctFs]
  | cons f r ih => simp only [List.cons_append, mkFs, ih, ctFs]; rw [show k + 1 + f.args.length + ctFs r = k + (1 + f.args.length + ctFs r) by omega]
theorem mkFs_len (A : List FactV) (k : Nat) : (mkFs A k).length = A.length := by
  induction A generalizing k with
  | nil => rfl
  | cons f r ih => simp [mkFs, ih]
theorem ctFs_take_succ (L : List FactV) (k : Nat) (h : k < L.length) : ctFs (L.take (k + 1)) = ctFs (L.take k) + 1 + L[k].args.length := by
  rw [List.take_succ_eq_append_getElem h, ctFs_append]; simp [ctFs]; omega
theorem ctFs_take_le (L : List FactV) (k : Nat) : ctFs (L.take k) ≤ ctFs L := by
  conv => rhs; rw [← List.take_append_drop k L]
  rw [ctFs_append]; omega
theorem mkFs_get (L : List FactV) (k0 i : Nat) (h : i < L.length) : (mkFs L k0)[i]'(by rw [mkFs_len]; exact h) = ⟨markTxt (k0 + ctFs (L.take i)), markL (k0 + ctFs (L.take i) + 1) L[i].args.length⟩ := by
  induction L generalizing k0 i with
  | nil => simp at h
  | cons f r ih =>
    cases i with
    | zero => simp [mkFs, ctFs]
    | succ i =>
      simp only [mkFs, List.getElem_cons_succ, List.take_succ_cons, ctFs]
      rw [ih _ i (by simpa using h)]
      rw [show k0 + 1 + f.args.length + ctFs (r.take i) = k0 + (1 + f.args.length + ctFs (r.take i)) by omega]
def midFs (L : List FactV) (k0 k : Nat) : List FactV := mkFs (L.take k) k0 ++ L.drop k
theorem midFs_0 (L : List FactV) (k0 : Nat) : midFs L k0 0 = L := by simp [midFs, mkFs]
theorem midFs_end (L : List FactV) (k0 k : Nat) (h : L.length ≤ k) : midFs L k0 k = mkFs L k0 := by simp [midFs, List.take_of_length_le h, List.drop_of_length_le h]
theorem midFs_len (L : List FactV) (k0 k : Nat) : (midFs L k0 k).length = L.length := by simp [midFs, mkFs_len]; omega
theorem midFs_get (L : List FactV) (k0 k : Nat) (h : k < L.length) : (midFs L k0 k)[k]'(by rw [midFs_len]; exact h) = L[k] := by
  unfold midFs
  rw [List.getElem_append_right (by simp [mkFs_len]; omega)]
  simp [mkFs_len, Nat.min_eq_left (Nat.le_of_lt h)]
theorem midFs_set (L : List FactV) (k0 k : Nat) (h : k < L.length) : (midFs L k0 k).set k ⟨markTxt (k0 + ctFs (L.take k)), markL (k0 + ctFs (L.take k) + 1) L[k].args.length⟩ = midFs L k0 (k + 1) := by
  unfold midFs
  rw [List.take_succ_eq_append_getElem h, mkFs_append, List.set_append_right _ _ (by simp [mkFs_len]; omega)]
  simp only [mkFs_len, List.length_take, Nat.min_eq_left (Nat.le_of_lt h), Nat.sub_self, mkFs, List.append_assoc]
  rw [List.drop_eq_getElem_cons h]
  rfl
theorem zr_le {a b : Nat} (h : a ≤ b) (hb : b ≤ 4194304) : a ≤ 4194304 := Nat.le_trans h hb
theorem ctT_le {x : List ByteArray} (h : tsz x ≤ 4194304) : ctT x ≤ 4194304 := by unfold tsz at h; unfold ctT; omega
theorem ctF_le {x : FactV} (h : fsz x ≤ 4194304) : ctF x ≤ 4194304 := by unfold fsz tsz at h; unfold ctF; omega
theorem ctP_le {x : List (ByteArray × ByteArray)} (h : psz x ≤ 4194304) : ctP x ≤ 8388608 := by unfold psz at h; unfold ctP; omega
theorem ctFs_fsum (L : List FactV) : ctFs L ≤ L.length + fsum L := by
  induction L with
  | nil => simp [ctFs]
  | cons f r ih => simp only [ctFs, fsum, List.length_cons]; unfold fsz tsz; omega
theorem ctFs_le {x : List FactV} (h : fssz x ≤ 4194304) : ctFs x ≤ 4194304 := by have := ctFs_fsum x; unfold fssz at h; omega
theorem cmk_texts {v : Value} {x : List ByteArray} {k lo hi : Nat} {w : World} (h : Ob (TO 9) w lo hi v x) (h1 : 1 ≤ k) (h2 : k + ctT x ≤ 1000000000) :
    Calls Tryd.prog 62 #[v, .int .i64 k] w fun e w' => e = .returned (.int .i64 (k + ctT x : Nat)) ∧ Ob (TO 9) w' lo hi v (mkT x k) ∧ Chg lo hi w w' :=
  (markT_any v x k lo hi w h.1 h1 h2).mono fun e w' ⟨a, b, c⟩ => by
    have hc : Chg lo hi w w' := Chg.grown c (fun g hg => h.1.own hg)
    exact ⟨a, ⟨b, Nat.le_trans h.2 hc.size⟩, hc⟩
theorem chd_texts {v : Value} {x : List ByteArray} {k lo hi : Nat} {w : World} (h : Ob TX w lo hi v (mkT x k)) (h1 : 1 ≤ k) (h2 : k + ctT x ≤ 1000000000) :
    Calls Tryd.prog 63 #[v, .int .i64 k] w fun e w' => e = .returned (.int .i64 (k + ctT x : Nat)) ∧ Up w w' := heldT_any v x.length k lo hi w h.1 h.2 h1 h2
set_option maxHeartbeats 400000 in
theorem cmk_fact {v : Value} {x : FactV} {k lo hi : Nat} {w : World} (h : Ob (FO 9) w lo hi v x) (h1 : 1 ≤ k) (h2 : k + ctF x ≤ 1000000000) :
    Calls Tryd.prog 21 #[v, .int .i64 k] w fun e w' => e = .returned (.int .i64 (k + ctF x : Nat)) ∧ Ob (FO 9) w' lo hi v (mkF x k) ∧ Chg lo hi w w' := by
  obtain ⟨⟨av, rfl, ht⟩, hh⟩ := h
  have HB := Lib.hid (Up.al1 w (.cells #[.string x.rel, av] 32))
  have HO : Hid (Ob (TO 9) w lo hi av x.args) := ⟨ht, hh⟩
  clear ht hh
  go_enter Tryd.func21, Tryd.ntmps21
  go_wp2_with fail
  refine (cmk_texts (HO.out.up HB.out) h1 h2).mono ?_
  rintro e w1 ⟨rfl, ho, hc⟩
  have HR : Hid (Ob (FO 9) w1 lo hi (.agg #[.string x.rel, av]) (mkF x k) ∧ Chg lo hi w w1) := ⟨⟨⟨av, rfl, ho.1⟩, ho.2⟩, (HB.out.chg lo hi).tr hc⟩
  clear ho hc
  go_wp2
  go_ret
  exact ⟨rfl, HR.out⟩
end Go.Proofs.YtpjklnngigkkiaaDoor
