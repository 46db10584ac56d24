/- The contracts of the functions that tell whether two lists of texts are equal, the program's and the reference's: both return whether the lists are equal. -/
import Derived.Test.YtpbnglpiadfjpaaText
namespace Go.Proofs.Ytpbnglpiadfjpaa
open Go.RowKit
theorem str_inj {a b : ByteArray} (h : a.toList = b.toList) : a = b := by
  rw [ByteArray.toList_eq, ByteArray.toList_eq] at h
  cases a; cases b; simp at h; rw [h]
theorem str_eq_t {a b : ByteArray} (h : (a.toList == b.toList) = true) : a = b := str_inj (by simpa using h)
theorem str_eq_f {a b : ByteArray} (h : (a.toList == b.toList) = false) : a ≠ b := by rintro rfl; simp at h
def sameTB (A B : List ByteArray) : Bool := decide (A = B)
theorem sameTB_len {A B : List ByteArray} (h : A.length ≠ B.length) : sameTB A B = false := by
  unfold sameTB; rw [decide_eq_false_iff_not]; intro e; exact h (by rw [e])
theorem sameTB_at {A B : List ByteArray} {k : Nat} (ha : k < A.length) (hb : k < B.length) (h : (A[k].toList == B[k].toList) = false) : sameTB A B = false := by
  unfold sameTB; rw [decide_eq_false_iff_not]; intro e; subst e; simp at h
theorem take_eq_succ {α : Type} {A B : List α} {k : Nat} (ha : k < A.length) (hb : k < B.length) (h : A.take k = B.take k) (e : A[k] = B[k]) : A.take (k+1) = B.take (k+1) := by
  rw [List.take_succ_eq_append_getElem ha, List.take_succ_eq_append_getElem hb, h, e]
theorem sameTB_all {A B : List ByteArray} {k : Nat} (ha : A.length ≤ k) (hb : B.length ≤ k) (h : A.take k = B.take k) : sameTB A B = true := by
  rw [List.take_of_length_le ha, List.take_of_length_le hb] at h
  unfold sameTB; rw [h]; simp
attribute [local go_sem ↓] Go.wp_at_zero Go.wp_at_succ
set_option maxHeartbeats 400000 in
theorem sameT_any (v v' : Value) (L L' : List ByteArray) (lo hi lo' hi' : Nat) (w : World) (hv : TX w lo hi v L) (hv' : TX w lo' hi' v' L') (h1 : hi ≤ w.heap.size) (h2 : hi' ≤ w.heap.size) :
    Calls Try.prog 99 #[v, v'] w fun e w' => e = .returned (.bool (sameTB L L')) ∧ Below w.heap.size w w' := by
  have hlen := hv.len
  have hlen' := hv'.len
  obtain ⟨a, cap, rfl, hlc, hcm, hv⟩ := hv
  obtain ⟨a', cap', rfl, hlc', hcm', hv'⟩ := hv'
  go_enter Try.func99, Try.ntmps99
  by_cases hn : L.length = L'.length
  · have hn1 : ((L.length : Int) == (L'.length : Int)) = true := by simp [hn]
    have hne : ((L.length : Int) != (L'.length : Int)) = false := by simp [hn]
    have HN := Lib.hid hn; clear hn
    go_wp2
    go_loopw [13] (fun i wr => ∃ (k : Nat), k ≤ L.length ∧ i = .int .i64 k ∧ Below w.heap.size w wr ∧ Hid (L.take k = L'.take k)) (fun i _ => L.length - (intOf i).toNat)
    case atStart => exact ⟨0, Nat.zero_le _, rfl, Below.refl _ _, by simp [Hid]⟩
    case round =>
      obtain ⟨k, hk, rfl, hb, HT⟩ := hrel
      by_cases hlt : k < L.length
      · have hlt' : k < L'.length := by have := HN.out; omega
        obtain ⟨b, off, rfl, -, hbh, hc⟩ := hv (by omega)
        obtain ⟨b', off', rfl, -, hbh', hc'⟩ := hv' (by omega)
        have c1 := (hb.cell (p := ⟨b, off + k, none⟩) (by show b < _; omega)).trans (hc k hlt)
        have c2 := (hb.cell (p := ⟨b', off' + k, none⟩) (by show b' < _; omega)).trans (hc' k hlt')
        clear hc hc' hv hv' hn1 hne
        have i1 : (0 : Int) ≤ (k : Int) := by omega
        have i2 : (k : Int) < (L.length : Int) := by omega
        have i3 : (k : Int) < (L'.length : Int) := by omega
        cases hq : (L[k].toList == L'[k].toList)
        · have HF := Lib.hid (sameTB_at hlt hlt' hq)
          go_wp2
          go_quiet (fail)
          go_wp2
          go_ret
          exact ⟨ret_bool HF.out.symm, below_drewN hb _⟩
        · have HF := Lib.hid (take_eq_succ hlt hlt' HT.out (str_eq_t hq))
          go_wp2
          go_quiet (fail)
          go_wp2
          exact ⟨⟨k+1, by omega, by go_num, below_drewN hb _, HF⟩, by simp [intOf]; omega⟩
      · have HF := Lib.hid (sameTB_all (by omega) (by have := HN.out; omega) HT.out)
        go_wp2
        go_ret
        exact ⟨ret_bool HF.out.symm, hb⟩
  · have hne : ((L.length : Int) != (L'.length : Int)) = true := by simp; omega
    have hn1 : ((L.length : Int) == (L'.length : Int)) = false := by simp; omega
    have HF := Lib.hid (sameTB_len hn)
    clear hn
    go_wp2
    go_ret
    exact ⟨ret_bool HF.out.symm, Below.refl _ _⟩
set_option maxHeartbeats 400000 in
theorem sameTS_any (v v' : Value) (L L' : List ByteArray) (lo hi lo' hi' : Nat) (w : World) (hv : TX w lo hi v L) (hv' : TX w lo' hi' v' L') (h1 : hi ≤ w.heap.size) (h2 : hi' ≤ w.heap.size) :
    Calls Try.prog 98 #[v, v'] w fun e w' => e = .returned (.bool (sameTB L L')) ∧ Below w.heap.size w w' := by
  have hlen := hv.len
  have hlen' := hv'.len
  obtain ⟨a, cap, rfl, hlc, hcm, hv⟩ := hv
  obtain ⟨a', cap', rfl, hlc', hcm', hv'⟩ := hv'
  go_enter Try.func98, Try.ntmps98
  by_cases hn : L.length = L'.length
  · have hn1 : ((L.length : Int) == (L'.length : Int)) = true := by simp [hn]
    have hne : ((L.length : Int) != (L'.length : Int)) = false := by simp [hn]
    have HN := Lib.hid hn; clear hn
    go_wp2
    go_loopw [5] (fun i wr => ∃ (k : Nat), k ≤ L.length ∧ i = .int .i64 k ∧ Below w.heap.size w wr ∧ Hid (L.take k = L'.take k)) (fun i _ => L.length - (intOf i).toNat)
    case atStart => exact ⟨0, Nat.zero_le _, rfl, Below.refl _ _, by simp [Hid]⟩
    case round =>
      obtain ⟨k, hk, rfl, hb, HT⟩ := hrel
      by_cases hlt : k < L.length
      · have hlt' : k < L'.length := by have := HN.out; omega
        obtain ⟨b, off, rfl, -, hbh, hc⟩ := hv (by omega)
        obtain ⟨b', off', rfl, -, hbh', hc'⟩ := hv' (by omega)
        have c1 := (hb.cell (p := ⟨b, off + k, none⟩) (by show b < _; omega)).trans (hc k hlt)
        have c2 := (hb.cell (p := ⟨b', off' + k, none⟩) (by show b' < _; omega)).trans (hc' k hlt')
        clear hc hc' hv hv' hn1 hne
        have i1 : (0 : Int) ≤ (k : Int) := by omega
        have i2 : (k : Int) < (L.length : Int) := by omega
        have i3 : (k : Int) < (L'.length : Int) := by omega
        cases hq : (L[k].toList == L'[k].toList)
        · have HF := Lib.hid (sameTB_at hlt hlt' hq)
          go_wp2
          go_quiet (fail)
          go_wp2
          go_ret
          exact ⟨ret_bool HF.out.symm, below_drewN hb _⟩
        · have HF := Lib.hid (take_eq_succ hlt hlt' HT.out (str_eq_t hq))
          go_wp2
          go_quiet (fail)
          go_wp2
          exact ⟨⟨k+1, by omega, by go_num, below_drewN hb _, HF⟩, by simp [intOf]; omega⟩
      · have HF := Lib.hid (sameTB_all (by omega) (by have := HN.out; omega) HT.out)
        go_wp2
        go_ret
        exact ⟨ret_bool HF.out.symm, hb⟩
  · have hne : ((L.length : Int) != (L'.length : Int)) = true := by simp; omega
    have hn1 : ((L.length : Int) == (L'.length : Int)) = false := by simp; omega
    have HF := Lib.hid (sameTB_len hn)
    clear hn
    go_wp2
    go_ret
    exact ⟨ret_bool HF.out.symm, Below.refl _ _⟩
end Go.Proofs.Ytpbnglpiadfjpaa
