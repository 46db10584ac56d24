/- The contracts of IsBinding, the program's and the reference's: both return the same plain function of the pairs; wherever the lengths can be counted. -/
import Derived.Test.YtojgkodffmdnpaaPair
import Derived.Test.YtojgkodffmdnpaaIsFact
namespace Go.Proofs.Ytojgkodffmdnpaa
open Go.RowKit
attribute [local go_sem ↓] Go.wp_at_zero Go.wp_at_succ
def bless (a b : ByteArray) : Bool := Op.bytesLess a.toList b.toList
def okAt (b : List (ByteArray × ByteArray)) (k : Nat) : Bool :=
  match b[k]? with
  | none => true
  | some p => (isVarB p.1 && isAtomB p.2) && (match k with | 0 => true | j + 1 => match b[j]? with | none => true | some q => bless q.1 p.1)
def isBindB (b : List (ByteArray × ByteArray)) : Bool := decide (b.length ≤ 6) && (List.range b.length).all (okAt b)
theorem okAt_var {b : List (ByteArray × ByteArray)} {k : Nat} (hk : k < b.length) (h : isVarB b[k].1 = false) : okAt b k = false := by
  unfold okAt; rw [List.getElem?_eq_getElem hk]; simp [h]
theorem okAt_val {b : List (ByteArray × ByteArray)} {k : Nat} (hk : k < b.length) (h : isAtomB b[k].2 = false) : okAt b k = false := by
  unfold okAt; rw [List.getElem?_eq_getElem hk]; simp [h]
theorem okAt_first {b : List (ByteArray × ByteArray)} (hk : 0 < b.length) (h : isVarB b[0].1 = true) (h' : isAtomB b[0].2 = true) : okAt b 0 = true := by
  unfold okAt; rw [List.getElem?_eq_getElem hk]; simp [h, h']
theorem okAt_next {b : List (ByteArray × ByteArray)} {j : Nat} (hk : j + 1 < b.length) (h : isVarB b[j+1].1 = true) (h' : isAtomB b[j+1].2 = true) : okAt b (j+1) = bless b[j].1 b[j+1].1 := by
  unfold okAt; simp [List.getElem?_eq_getElem hk, List.getElem?_eq_getElem (show j < b.length by omega), h, h']
theorem range_all_succ {k : Nat} {p : Nat → Bool} (h : (List.range k).all p = true) (h' : p k = true) : (List.range (k+1)).all p = true := by
  rw [List.range_succ, List.all_append, h]; simp [h']
theorem range_all_f {n k : Nat} {p : Nat → Bool} (hk : k < n) (h' : p k = false) : (List.range n).all p = false := by
  rw [List.all_eq_false]; exact ⟨k, List.mem_range.2 hk, by simp [h']⟩
theorem isBindB_f {b : List (ByteArray × ByteArray)} {k : Nat} (hk : k < b.length) (h : okAt b k = false) : isBindB b = false := by
  unfold isBindB; rw [range_all_f hk h]; simp
theorem psz_at {L : List (ByteArray × ByteArray)} (h : psz L ≤ 1048576) (k : Nat) (hk : k < L.length) : L[k].1.size ≤ maxLen ∧ L[k].2.size ≤ maxLen := by
  have h1 := psum_take_succ L k hk
  have h2 := psum_take_le L (k+1)
  unfold psz at h
  unfold psz1 at h1
  unfold maxLen
  omega
theorem quiet_l {P : Program} {f : FuncId} {args : Array Value} {w : World} {n : Nat} {v : Value}
    (h : Calls P f args (w.drewN n) fun e w' => e = .returned v ∧ w.drewN n = w') : Calls P f args (w.drewN n) fun e w'' => e = .returned v ∧ ∃ m, w'' = w.drewN m :=
  h.mono fun _ _ ⟨he, hm⟩ => ⟨he, n, hm.symm⟩
set_option maxHeartbeats 1000000 in
theorem cIsBinding {v : Value} {x : List (ByteArray × ByteArray)} {lo hi : Nat} {w : World} (h : Ob SP w lo hi v x) (hz : psz x ≤ 1048576) :
    Calls Try.prog 104 #[v] w fun e w' => e = .returned (.bool (isBindB x)) ∧ Up w w' := by
  have hsz := psz_at hz
  have hlen : x.length ≤ 1048576 := by unfold psz at hz; omega
  clear hz
  obtain ⟨a, cap, rfl⟩ := h.1.form
  have HV := Lib.hid h
  clear h
  go_enter Try.func104, Try.ntmps104
  by_cases hl : x.length ≤ 6
  · go_wp2_with fail
    have HL := Lib.hid hl
    clear hl
    go_loopw [10] (fun i wr => ∃ (k : Nat), k ≤ x.length ∧ i = .int .i64 k ∧ Hid ((List.range k).all (okAt x) = true) ∧ Up w wr) (fun i _ => x.length - (intOf i).toNat)
    case atStart => exact ⟨0, Nat.zero_le _, rfl, rfl, Up.rf w⟩
    case round =>
      obtain ⟨k, hk, rfl, H, hb⟩ := hrel
      by_cases hlt : k < x.length
      · obtain ⟨b, off, rfl, c0, c1⟩ := SP.at (HV.out.up hb).1 hlt
        have i1 : (0 : Int) ≤ (k : Int) := by omega
        have i2 : (k : Int) < (x.length : Int) := by omega
        obtain ⟨z1, z2⟩ := hsz k hlt
        go_wp2_with fail
        clear c0 c1
        have hb1 : Up wr (wr.alloc (.cells #[.string x[k].1, .string x[k].2] 111)) := Up.al1 _ _
        have hk1 : Blk (wr.alloc (.cells #[.string x[k].1, .string x[k].2] 111)) wr.heap.size 111 #[.string x[k].1, .string x[k].2] := Blk.new _ _ _
        generalize wr.alloc (.cells #[.string x[k].1, .string x[k].2] 111) = w1 at *
        have d0 := hk1.cell0
        have d1 := hk1.cell1
        have HB := Lib.hid (hb.tr hb1)
        clear hb1 hk1 hb
        cases hA : isVarB x[k].1
        · have HF := Lib.hid (isBindB_f hlt (okAt_var hlt hA))
          go_quiet ((go_at_call 124; exact quiet_l (var_any _ _ z1)))
          go_wp2
          go_ret
          exact ⟨ret_bool HF.out.symm, below_drewN HB.out _⟩
        · cases hC : isAtomB x[k].2
          · have HF := Lib.hid (isBindB_f hlt (okAt_val hlt hC))
            go_quiet ((first | (go_at_call 124; exact quiet_l (var_any _ _ z1)) | (go_at_call 93; exact quiet_l (atom_any _ _ z2))))
            go_wp2
            go_ret
            exact ⟨ret_bool HF.out.symm, below_drewN HB.out _⟩
          · by_cases hk0 : k = 0
            · subst hk0
              have HF := Lib.hid (range_all_succ H.out (okAt_first hlt hA hC))
              have hd : decide ((0 : Int) < ((0 : Nat) : Int)) = false := by simp
              go_quiet ((first | (go_at_call 124; exact quiet_l (var_any _ _ z1)) | (go_at_call 93; exact quiet_l (atom_any _ _ z2))))
              go_wp2
              exact ⟨⟨0+1, by omega, by go_num, HF, below_drewN HB.out _⟩, by simp [intOf]; omega⟩
            · obtain ⟨j, rfl⟩ : ∃ j, k = j + 1 := ⟨k - 1, by omega⟩
              have hd : decide ((0 : Int) < (j : Int) + 1) = true := decide_eq_true (by omega)
              have hn := okAt_next hlt hA hC
              obtain ⟨b', off', e, c0, c1⟩ := SP.at (HV.out.up HB.out).1 (show j < x.length by omega)
              injection e with e
              injection e with e1 e2 e3
              subst e1
              subst e2
              clear c1
              have hw : IntKind.i64.wrap ((j : Int) + 1 - 1) = (j : Int) := by rw [show (j : Int) + 1 - 1 = j by omega]; exact IntWalk.i64_in _ (by omega)
              have i3 : (0 : Int) ≤ (j : Int) := by omega
              have i4 : (j : Int) < (x.length : Int) := by omega
              cases hB : bless x[j].1 x[j+1].1
              · have HF := Lib.hid (isBindB_f hlt (hn.trans hB))
                clear hn
                unfold bless at hB
                go_quiet ((first | (go_at_call 124; exact quiet_l (var_any _ _ z1)) | (go_at_call 93; exact quiet_l (atom_any _ _ z2))))
                clear hw
                go_wp2
                go_ret
                exact ⟨ret_bool HF.out.symm, below_drewN HB.out _⟩
              · have HF := Lib.hid (range_all_succ H.out (hn.trans hB))
                clear hn
                unfold bless at hB
                go_quiet ((first | (go_at_call 124; exact quiet_l (var_any _ _ z1)) | (go_at_call 93; exact quiet_l (atom_any _ _ z2))))
                clear hw
                go_wp2
                exact ⟨⟨j+1+1, by omega, by go_num, HF, below_drewN HB.out _⟩, by simp [intOf]; omega⟩
      · have HF : Hid (isBindB x = true) := by
          obtain rfl : k = x.length := by omega
          unfold isBindB; rw [H.out]; simp [Hid, HL.out]
        go_wp2
        go_ret
        exact ⟨ret_bool HF.out.symm, hb⟩
  · have HF : Hid (isBindB x = false) := by unfold isBindB; simp [hl, Hid]
    go_wp2
    go_ret
    exact ⟨ret_bool HF.out.symm, Up.rf w⟩
set_option maxHeartbeats 1000000 in
theorem cIsBindingS {v : Value} {x : List (ByteArray × ByteArray)} {lo hi : Nat} {w : World} (h : Ob SP w lo hi v x) (hz : psz x ≤ 1048576) :
    Calls Try.prog 101 #[v] w fun e w' => e = .returned (.bool (isBindB x)) ∧ Up w w' := by
  have hsz := psz_at hz
  have hlen : x.length ≤ 1048576 := by unfold psz at hz; omega
  clear hz
  obtain ⟨a, cap, rfl⟩ := h.1.form
  have HV := Lib.hid h
  clear h
  go_enter Try.func101, Try.ntmps101
  go_wp2_with fail
  go_loopw [3] (fun i wr => ∃ (k : Nat), k ≤ x.length ∧ i = .int .i64 k ∧ Hid ((List.range k).all (okAt x) = true) ∧ Up w wr) (fun i _ => x.length - (intOf i).toNat)
  case atStart => exact ⟨0, Nat.zero_le _, rfl, rfl, Up.rf w⟩
  case round =>
    obtain ⟨k, hk, rfl, H, hb⟩ := hrel
    by_cases hlt : k < x.length
    · obtain ⟨b, off, rfl, d0, d1⟩ := SP.at (HV.out.up hb).1 hlt
      have i1 : (0 : Int) ≤ (k : Int) := by omega
      have i2 : (k : Int) < (x.length : Int) := by omega
      obtain ⟨z1, z2⟩ := hsz k hlt
      have HB := Lib.hid hb
      clear hb
      go_wp2_with fail
      cases hA : isVarB x[k].1
      · have HF := Lib.hid (isBindB_f hlt (okAt_var hlt hA))
        go_quiet ((go_at_call 114; exact quiet_l (varS_any _ _ z1)))
        go_wp2
        go_ret
        exact ⟨ret_bool HF.out.symm, below_drewN HB.out _⟩
      · cases hC : isAtomB x[k].2
        · have HF := Lib.hid (isBindB_f hlt (okAt_val hlt hC))
          go_quiet ((first | (go_at_call 114; exact quiet_l (varS_any _ _ z1)) | (go_at_call 90; exact quiet_l (atomS_any _ _ z2))))
          go_wp2
          go_ret
          exact ⟨ret_bool HF.out.symm, below_drewN HB.out _⟩
        · by_cases hk0 : k = 0
          · subst hk0
            simp only [Nat.zero_mul, Nat.add_zero] at d0 d1
            have HF := Lib.hid (range_all_succ H.out (okAt_first hlt hA hC))
            have hd : decide ((0 : Int) < ((0 : Nat) : Int)) = false := by simp
            go_quiet ((first | (go_at_call 114; exact quiet_l (varS_any _ _ z1)) | (go_at_call 90; exact quiet_l (atomS_any _ _ z2))))
            go_wp2
            exact ⟨⟨0+1, by omega, by go_num, HF, below_drewN HB.out _⟩, by simp [intOf]; omega⟩
          · obtain ⟨j, rfl⟩ : ∃ j, k = j + 1 := ⟨k - 1, by omega⟩
            have hd : decide ((0 : Int) < (j : Int) + 1) = true := decide_eq_true (by omega)
            have hn := okAt_next hlt hA hC
            obtain ⟨b', off', e, c0, c1⟩ := SP.at (HV.out.up HB.out).1 (show j < x.length by omega)
            injection e with e
            injection e with e1 e2 e3
            subst e1
            subst e2
            clear c1
            have hw : IntKind.i64.wrap ((j : Int) + 1 - 1) = (j : Int) := by rw [show (j : Int) + 1 - 1 = j by omega]; exact IntWalk.i64_in _ (by omega)
            have i3 : (0 : Int) ≤ (j : Int) := by omega
            have i4 : (j : Int) < (x.length : Int) := by omega
            cases hB : bless x[j].1 x[j+1].1
            · have HF := Lib.hid (isBindB_f hlt (hn.trans hB))
              clear hn
              unfold bless at hB
              go_quiet ((first | (go_at_call 114; exact quiet_l (varS_any _ _ z1)) | (go_at_call 90; exact quiet_l (atomS_any _ _ z2))))
              clear hw
              go_wp2
              go_ret
              exact ⟨ret_bool HF.out.symm, below_drewN HB.out _⟩
            · have HF := Lib.hid (range_all_succ H.out (hn.trans hB))
              clear hn
              unfold bless at hB
              go_quiet ((first | (go_at_call 114; exact quiet_l (varS_any _ _ z1)) | (go_at_call 90; exact quiet_l (atomS_any _ _ z2))))
              clear hw
              go_wp2
              exact ⟨⟨j+1+1, by omega, by go_num, HF, below_drewN HB.out _⟩, by simp [intOf]; omega⟩
    · have HA := Lib.hid H.out
      have HE : Hid (k = x.length) := show _ = _ by omega
      have HF : Hid (isBindB x = decide ((x.length : Int) ≤ 6)) := by
        have h := H.out
        rw [HE.out] at h
        unfold isBindB; rw [h]; simp [Hid]; omega
      clear HA
      go_wp2
      go_ret
      exact ⟨ret_bool HF.out.symm, hb⟩
end Go.Proofs.Ytojgkodffmdnpaa
