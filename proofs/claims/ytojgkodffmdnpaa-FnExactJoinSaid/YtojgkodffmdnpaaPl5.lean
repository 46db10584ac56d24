/- Plain laws of written facts, patterns, bindings and lists of facts; no condition: nothing of the program is named here but the plain functions of the texts that are imported. -/
import Derived.Test.YtojgkodffmdnpaaPl2
import Derived.Test.YtojgkodffmdnpaaPl4
namespace Go.Proofs.Ytojgkodffmdnpaa
open Go.RowKit
def tDash : ByteArray := ⟨#[45]⟩
def tSp : ByteArray := ⟨#[32]⟩
def tEq : ByteArray := ⟨#[61]⟩
def formF (f : FactV) : ByteArray := if isFactB f then fmtF f else ⟨#[]⟩
def formP (f : FactV) : ByteArray := if isPatB f then fmtF f else ⟨#[]⟩
def pairT (p : ByteArray × ByteArray) : ByteArray := p.1 ++ tEq ++ p.2
def formB (b : Prs) : ByteArray := if isBindB b then (if b.length = 0 then tDash else joinB (b.map pairT) tSp) else ⟨#[]⟩
def formFs (L : List FactV) : ByteArray := if L.length = 0 then tDash else if L.all isFactB then joinB (L.map formF) tSp else ⟨#[]⟩
theorem tlen_le {L : List ByteArray} {n : Nat} (h : ∀ s ∈ L, s.size ≤ n) : tlen L ≤ L.length * n := by
  induction L with
  | nil => simp [tlen]
  | cons a r ih =>
    have h1 := h a (by simp)
    have h2 := ih fun s hs => h s (by simp [hs])
    simp only [tlen, List.length_cons, Nat.add_mul, Nat.one_mul]; omega
theorem tlen_tsum (L : List ByteArray) : tlen L = tsum L := by
  induction L with
  | nil => rfl
  | cons a r ih => simp [tlen, tsum, ih]
theorem isFact_args {f : FactV} (h : isFactB f = true) : f.rel.size ≤ 8 ∧ f.args.length ≤ 3 ∧ ∀ s ∈ f.args, s.size ≤ 8 := by
  unfold isFactB at h
  simp only [Bool.and_eq_true, decide_eq_true_eq, List.all_eq_true] at h
  refine ⟨?_, h.1.2, fun s hs => (isAtomB_size (h.2 s hs)).2⟩
  have h1 := h.1.1
  unfold isNameB at h1
  simp only [Bool.and_eq_true] at h1
  exact (isAtomB_size h1.1).2
theorem isPat_args {f : FactV} (h : isPatB f = true) : f.rel.size ≤ 8 ∧ f.args.length ≤ 3 ∧ ∀ s ∈ f.args, s.size ≤ 9 := by
  unfold isPatB at h
  simp only [Bool.and_eq_true, decide_eq_true_eq, List.all_eq_true] at h
  refine ⟨?_, h.1.2, fun s hs => isTermB_size (h.2 s hs)⟩
  have h1 := h.1.1
  unfold isNameB at h1
  simp only [Bool.and_eq_true] at h1
  exact (isAtomB_size h1.1).2
theorem join_small {L : List ByteArray} {sep : ByteArray} {n m : Nat} (h : ∀ s ∈ L, s.size ≤ n) (hl : L.length ≤ m) : (joinB L sep).size ≤ m * n + m * sep.size := by
  rw [joinB_size]
  have h1 := tlen_le h
  have h2 : L.length * n ≤ m * n := Nat.mul_le_mul_right _ hl
  have h3 : (L.length - 1) * sep.size ≤ m * sep.size := Nat.mul_le_mul_right _ (by omega)
  omega
theorem fmtF_size (f : FactV) : (fmtF f).size = f.rel.size + (joinB f.args tCo).size + 2 := by
  unfold fmtF; simp only [ByteArray.size_append]
  have h1 : tLp.size = 1 := rfl
  have h2 : tRp.size = 1 := rfl
  omega
theorem fmtF_fact {f : FactV} (h : isFactB f = true) : (fmtF f).size ≤ 40 := by
  obtain ⟨h1, h2, h3⟩ := isFact_args h
  have := join_small (sep := tCo) h3 h2
  rw [fmtF_size]
  have h4 : tCo.size = 1 := rfl
  omega
theorem fmtF_pat {f : FactV} (h : isPatB f = true) : (fmtF f).size ≤ 43 := by
  obtain ⟨h1, h2, h3⟩ := isPat_args h
  have := join_small (sep := tCo) h3 h2
  rw [fmtF_size]
  have h4 : tCo.size = 1 := rfl
  omega
theorem fact_no40 {f : FactV} (h : isFactB f = true) : ∀ p ∈ f.args, (40 : UInt8) ∉ p.data.toList := by
  intro p hp hc
  unfold isFactB at h
  simp only [Bool.and_eq_true, List.all_eq_true] at h
  have h1 := h.2 p hp
  unfold isAtomB at h1
  simp only [Bool.and_eq_true, List.all_eq_true] at h1
  have := h1.2 40 hc
  simp [atomCh, inB] at this
theorem term_no {s : ByteArray} {c : UInt8} (h : isTermB s = true) (hc : c ∈ s.data.toList) : c = 63 ∨ atomCh c = true := by
  unfold isTermB at h
  simp only [Bool.or_eq_true] at h
  rcases h with h | h
  · unfold isAtomB at h
    simp only [Bool.and_eq_true, List.all_eq_true] at h
    exact .inr (h.2 c hc)
  · unfold isVarB at h
    simp only [Bool.and_eq_true, decide_eq_true_eq] at h
    obtain ⟨⟨h1, h2⟩, h3⟩ := h
    obtain ⟨r, hr⟩ := hd_of s (by omega)
    rw [hr] at h2 hc
    simp only [decide_eq_true_eq] at h2
    rcases List.mem_cons.1 hc with rfl | hc
    · left
      apply UInt8.toNat_inj.1
      have : (63 : UInt8).toNat = 63 := rfl
      omega
    · right
      unfold isAtomB at h3
      simp only [Bool.and_eq_true, List.all_eq_true] at h3
      refine h3.2 c ?_
      rw [Lib.extract_to_end, hr]; simpa using hc
theorem pat_no40 {f : FactV} (h : isPatB f = true) : ∀ p ∈ f.args, (40 : UInt8) ∉ p.data.toList := by
  intro p hp hc
  unfold isPatB at h
  simp only [Bool.and_eq_true, List.all_eq_true] at h
  rcases term_no (h.2 p hp) hc with h1 | h1
  · cases h1
  · simp [atomCh, inB] at h1
theorem pairT_size (p : ByteArray × ByteArray) : (pairT p).size = p.1.size + p.2.size + 1 := by
  unfold pairT; simp only [ByteArray.size_append]
  have h1 : tEq.size = 1 := rfl
  omega
end Go.Proofs.Ytojgkodffmdnpaa
