/- Specificity, the program's and the reference's. -/
import Derived.Test.YtojgkodffmdnpaaRule
import Derived.Test.YtojgkodffmdnpaaMatch
namespace Go.Proofs.Ytojgkodffmdnpaa
open Go.RowKit
attribute [local go_sem ↓] Go.wp_at_zero Go.wp_at_succ
set_option linter.unusedVariables false
def atomsN (L : List ByteArray) : Nat := (L.filter isAtomB).length
def sumA : List CondV → Nat
  | [] => 0
  | c :: r => atomsN c.pat.args + sumA r
def specN (x : RuleV) : Nat := x.ifs.length + sumA x.ifs
theorem sumA_append (A B : List CondV) : sumA (A ++ B) = sumA A + sumA B := by
  induction A with
  | nil => simp [sumA]
  | cons a A ih => simp [sumA, ih]; omega
theorem sumA_take_succ (L : List CondV) (k : Nat) (h : k < L.length) : sumA (L.take (k + 1)) = sumA (L.take k) + atomsN L[k].pat.args := by
  rw [List.take_succ_eq_append_getElem h, sumA_append]; simp [sumA]
theorem sumA_take_le (L : List CondV) (k : Nat) : sumA (L.take k) ≤ sumA L := by
  conv => rhs; rw [← List.take_append_drop k L]
  rw [sumA_append]; omega
theorem atomsN_le (c : CondV) : atomsN c.pat.args ≤ csz c := by
  have := List.length_filter_le isAtomB c.pat.args
  unfold atomsN csz fsz tsz; omega
theorem sumA_le (L : List CondV) : sumA L ≤ csum L := by
  induction L with
  | nil => simp [sumA, csum]
  | cons a L ih => have := atomsN_le a; simp only [sumA, csum]; omega
theorem atomsN_t {L : List ByteArray} {m : Nat} (h : m < L.length) (hp : isAtomB L[m] = true) : atomsN (L.take (m + 1)) = atomsN (L.take m) + 1 := by
  unfold atomsN; rw [filter_take_t h hp]; simp
theorem atomsN_f {L : List ByteArray} {m : Nat} (h : m < L.length) (hp : isAtomB L[m] = false) : atomsN (L.take (m + 1)) = atomsN (L.take m) := by
  unfold atomsN; rw [filter_take_f h hp]
theorem atomsN_take_le (L : List ByteArray) (m : Nat) : atomsN (L.take m) ≤ atomsN L := by
  unfold atomsN
  conv => rhs; rw [← List.take_append_drop m L]
  rw [List.filter_append, List.length_append]; omega
theorem specN_le {x : RuleV} (h : rsz x ≤ 1048576) : x.ifs.length + sumA x.ifs ≤ 1048576 := by
  have := sumA_le x.ifs; unfold rsz cssz at h; omega
theorem rsz_arg {x : RuleV} (h : rsz x ≤ 1048576) (k : Nat) (hk : k < x.ifs.length) : csz x.ifs[k] ≤ 1048576 := by
  have := csum_mem (List.getElem_mem hk); unfold rsz cssz at h; omega
theorem csz_arg {c : CondV} (h : csz c ≤ 1048576) (m : Nat) (hm : m < c.pat.args.length) : c.pat.args[m].size ≤ maxLen := by
  have := tsum_mem (List.getElem_mem hm); unfold csz fsz tsz at h; unfold maxLen; omega
set_option maxHeartbeats 1000000 in
theorem cSpecif {v : Value} {x : RuleV} {lo hi : Nat} {w : World} (h : Ob AR w lo hi v x) (hz : rsz x ≤ 1048576) :
    Calls Try.prog 34 #[v] w fun e w' => e = .returned (.int .i64 (specN x : Nat)) ∧ Up w w' := by
  obtain ⟨ia, ic, ta, tc, rfl, hI, hT⟩ := AR.parts h
  have hlen := hI.1.len
  have hb0 : Up w (w.alloc (.cells #[.string x.name, .int .i64 x.prio, .slice ia x.ifs.length ic, .slice ta x.thens.length tc] 58)) := Up.al1 _ _
  have HK := Lib.hid (Blk.new w 58 #[.string x.name, .int .i64 x.prio, .slice ia x.ifs.length ic, .slice ta x.thens.length tc])
  have HI := Lib.hid (hI.up hb0)
  have HB := Lib.hid hb0
  have HZ := Lib.hid hz
  have HN := Lib.hid (specN_le hz)
  clear hb0 h hI hT hz
  go_enter Try.func34, Try.ntmps34
  go_wp2_with fail
  generalize (w.alloc (.cells #[.string x.name, .int .i64 x.prio, .slice ia x.ifs.length ic, .slice ta x.thens.length tc] 58)) = W at *
  go_loopw [3, 14] (fun n i wr => ∃ (k c : Nat), k ≤ x.ifs.length ∧ i = .int .i64 k ∧ n = .int .i64 (c : Nat) ∧ Hid (c = x.ifs.length + sumA (x.ifs.take k)) ∧ Up W wr) (fun _ i _ => x.ifs.length - (intOf i).toNat)
  case atStart => exact ⟨0, x.ifs.length, Nat.zero_le _, rfl, rfl, by simp [Hid, sumA], Up.rf _⟩
  case round =>
    obtain ⟨k, c, hk, rfl, rfl, HC, hb⟩ := hrel
    by_cases hlt : k < x.ifs.length
    · obtain ⟨b, off, d, q, rfl, c0, c1, c2, c3, c4, hA⟩ := SC.at (HI.out.up hb).1 hlt
      have HTX := Lib.hid (AF.tx9 (Ob.pat ((show Ob AC wr lo hi _ x.ifs[k] from ⟨hA, Nat.le_trans HI.out.2 hb.size⟩).up (Up.al1 wr (.cells #[.int .i64 x.ifs[k].kind, .string x.ifs[k].pat.rel, .slice d x.ifs[k].pat.args.length q, .string x.ifs[k].left, .string x.ifs[k].right] 32)))))
      have hpl := HTX.out.1.len
      have HS := Lib.hid (sumA_take_succ x.ifs k hlt)
      have HL := Lib.hid (sumA_take_le x.ifs (k + 1))
      have i1 : (0 : Int) ≤ (k : Int) := by omega
      have i2 : (k : Int) < (x.ifs.length : Int) := by omega
      clear hA
      go_wp2_with fail
      clear c0 c1 c2 c3 c4
      go_loop [3, 22] (fun n j => ∃ (m e : Nat), m ≤ x.ifs[k].pat.args.length ∧ j = .int .i64 m ∧ n = .int .i64 (e : Nat) ∧ Hid (e = c + atomsN (x.ifs[k].pat.args.take m))) (fun _ j => x.ifs[k].pat.args.length - (intOf j).toNat)
      case atStart => exact ⟨0, c, Nat.zero_le _, rfl, rfl, by simp [Hid, atomsN]⟩
      case round =>
        obtain ⟨m, e, hm, rfl, rfl, HE⟩ := hrel
        by_cases hmt : m < x.ifs[k].pat.args.length
        · obtain ⟨b2, off2, rfl, -, -, e0⟩ := HTX.out.1.at hmt
          have j1 : (0 : Int) ≤ (m : Int) := by omega
          have j2 : (m : Int) < (x.ifs[k].pat.args.length : Int) := by omega
          have hsz := csz_arg (rsz_arg HZ.out k hlt) m hmt
          have hbd : e ≤ 1048576 := by have := HE.out; have := HC.out; have := HS.out; have := HL.out; have := HN.out; have := atomsN_take_le x.ifs[k].pat.args m; omega
          cases hq : isAtomB x.ifs[k].pat.args[m]
          · have HF := Lib.hid (atomsN_f hmt hq)
            go_wp2_with (go_at_call 93; refine (atom_any _ _ hsz).mono ?_; rintro e' w1 ⟨rfl, rfl⟩)
            exact ⟨⟨m+1, e, by omega, by go_num, rfl, by have := HE.out; have := HF.out; show _ = _; omega⟩, by simp [intOf]; omega⟩
          · have HF := Lib.hid (atomsN_t hmt hq)
            go_wp2_with (go_at_call 93; refine (atom_any _ _ hsz).mono ?_; rintro e' w1 ⟨rfl, rfl⟩)
            exact ⟨⟨m+1, e+1, by omega, by go_num, by go_num, by have := HE.out; have := HF.out; show _ = _; omega⟩, by simp [intOf]; omega⟩
        · have HF : Hid (x.ifs[k].pat.args.take m = x.ifs[k].pat.args) := List.take_of_length_le (by omega)
          go_wp2
          exact ⟨⟨k+1, e, by omega, by go_num, rfl, by have h1 := HE.out; rw [HF.out] at h1; have := HC.out; have := HS.out; show _ = _; omega, hb.al _⟩, by simp [intOf]; omega⟩
    · have HF : Hid (x.ifs.take k = x.ifs) := List.take_of_length_le (by omega)
      go_wp2
      go_ret
      exact ⟨ret_int (by have h1 := HC.out; rw [HF.out] at h1; rw [h1]; rfl), HB.out.tr hb⟩
set_option maxHeartbeats 1000000 in
theorem cSpecifS {v : Value} {x : RuleV} {lo hi : Nat} {w : World} (h : Ob AR w lo hi v x) (hz : rsz x ≤ 1048576) :
    Calls Try.prog 32 #[v] w fun e w' => e = .returned (.int .i64 (specN x : Nat)) ∧ Up w w' := by
  obtain ⟨ia, ic, ta, tc, rfl, hI, hT⟩ := AR.parts h
  have hlen := hI.1.len
  have hb0 : Up w (w.alloc (.cells #[.string x.name, .int .i64 x.prio, .slice ia x.ifs.length ic, .slice ta x.thens.length tc] 58)) := Up.al1 _ _
  have HK := Lib.hid (Blk.new w 58 #[.string x.name, .int .i64 x.prio, .slice ia x.ifs.length ic, .slice ta x.thens.length tc])
  have HI := Lib.hid (hI.up hb0)
  have HB := Lib.hid hb0
  have HZ := Lib.hid hz
  have HN := Lib.hid (specN_le hz)
  clear hb0 h hI hT hz
  go_enter Try.func32, Try.ntmps32
  go_wp2_with fail
  generalize (w.alloc (.cells #[.string x.name, .int .i64 x.prio, .slice ia x.ifs.length ic, .slice ta x.thens.length tc] 58)) = W at *
  have k2 : W.cell? ⟨w.heap.size, 2, none⟩ = some (.slice ia x.ifs.length ic) := (HK.out.cell 2).trans rfl
  go_loop [3, 4] (fun n i => ∃ (k c : Nat), k ≤ x.ifs.length ∧ i = .int .i64 k ∧ n = .int .i64 (c : Nat) ∧ Hid (c = x.ifs.length + sumA (x.ifs.take k))) (fun _ i => x.ifs.length - (intOf i).toNat)
  case atStart => exact ⟨0, x.ifs.length, Nat.zero_le _, rfl, rfl, by simp [Hid, sumA]⟩
  case round =>
    obtain ⟨k, c, hk, rfl, rfl, HC⟩ := hrel
    by_cases hlt : k < x.ifs.length
    · obtain ⟨b, off, d, q, rfl, c0, c1, c2, c3, c4, hA⟩ := SC.at HI.out.1 hlt
      have HTX := Lib.hid (AF.tx9 (Ob.pat (show Ob AC W lo hi _ x.ifs[k] from ⟨hA, HI.out.2⟩)))
      have hpl := HTX.out.1.len
      have HS := Lib.hid (sumA_take_succ x.ifs k hlt)
      have HL := Lib.hid (sumA_take_le x.ifs (k + 1))
      have i1 : (0 : Int) ≤ (k : Int) := by omega
      have i2 : (k : Int) < (x.ifs.length : Int) := by omega
      clear hA c0 c1 c3 c4
      go_wp2_with fail
      go_loop [3, 5] (fun n j => ∃ (m e : Nat), m ≤ x.ifs[k].pat.args.length ∧ j = .int .i64 m ∧ n = .int .i64 (e : Nat) ∧ Hid (e = c + atomsN (x.ifs[k].pat.args.take m))) (fun _ j => x.ifs[k].pat.args.length - (intOf j).toNat)
      case atStart => exact ⟨0, c, Nat.zero_le _, rfl, rfl, by simp [Hid, atomsN]⟩
      case round =>
        obtain ⟨m, e, hm, rfl, rfl, HE⟩ := hrel
        by_cases hmt : m < x.ifs[k].pat.args.length
        · obtain ⟨b2, off2, rfl, -, -, e0⟩ := HTX.out.1.at hmt
          have j1 : (0 : Int) ≤ (m : Int) := by omega
          have j2 : (m : Int) < (x.ifs[k].pat.args.length : Int) := by omega
          have hsz := csz_arg (rsz_arg HZ.out k hlt) m hmt
          have hbd : e ≤ 1048576 := by have := HE.out; have := HC.out; have := HS.out; have := HL.out; have := HN.out; have := atomsN_take_le x.ifs[k].pat.args m; omega
          cases hq : isAtomB x.ifs[k].pat.args[m]
          · have HF := Lib.hid (atomsN_f hmt hq)
            go_wp2_with (go_at_call 90; refine (atomS_any _ _ hsz).mono ?_; rintro e' w1 ⟨rfl, rfl⟩)
            exact ⟨⟨m+1, e, by omega, by go_num, rfl, by have := HE.out; have := HF.out; show _ = _; omega⟩, by simp [intOf]; omega⟩
          · have HF := Lib.hid (atomsN_t hmt hq)
            go_wp2_with (go_at_call 90; refine (atomS_any _ _ hsz).mono ?_; rintro e' w1 ⟨rfl, rfl⟩)
            exact ⟨⟨m+1, e+1, by omega, by go_num, by go_num, by have := HE.out; have := HF.out; show _ = _; omega⟩, by simp [intOf]; omega⟩
        · have HF : Hid (x.ifs[k].pat.args.take m = x.ifs[k].pat.args) := List.take_of_length_le (by omega)
          go_wp2
          exact ⟨⟨k+1, e, by omega, by go_num, rfl, by have h1 := HE.out; rw [HF.out] at h1; have := HC.out; have := HS.out; show _ = _; omega⟩, by simp [intOf]; omega⟩
    · have HF : Hid (x.ifs.take k = x.ifs) := List.take_of_length_le (by omega)
      go_wp2
      go_ret
      exact ⟨ret_int (by have h1 := HC.out; rw [HF.out] at h1; rw [h1]; rfl), HB.out⟩
end Go.Proofs.Ytojgkodffmdnpaa
