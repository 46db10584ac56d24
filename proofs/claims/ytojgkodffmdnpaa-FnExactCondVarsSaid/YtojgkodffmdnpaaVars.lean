/- The variables of texts, of patterns and of conditions, the program's and the reference's: in order, each once; wherever the lengths can be counted. -/
import Derived.Deep.AppendLies
import Derived.Test.YtojgkodffmdnpaaSort
import Derived.Test.YtojgkodffmdnpaaCopy
import Derived.Test.YtojgkodffmdnpaaCond
import Derived.Test.YtojgkodffmdnpaaMatch
namespace Go.Proofs.Ytojgkodffmdnpaa
open Go.RowKit
attribute [local go_sem ↓] Go.wp_at_zero Go.wp_at_succ
set_option linter.unusedVariables false
theorem tsz_len {L : List ByteArray} {n : Nat} (h : tsz L ≤ n) : L.length ≤ n := by unfold tsz at h; omega
theorem putT_tsum (L : List ByteArray) (s : ByteArray) : tsum (putT L s) ≤ tsum L + s.size := by
  induction L with
  | nil => simp [putT, tsum]
  | cons a r ih =>
    unfold putT
    split
    · simp only [tsum]; omega
    · split <;> simp only [tsum] <;> omega
theorem setT_tsz (L : List ByteArray) : tsz (setT L) ≤ tsz L := by
  have h : ∀ (L A : List ByteArray), tsum (L.foldl putT A) ≤ tsum A + tsum L := by
    intro L
    induction L with
    | nil => simp [tsum]
    | cons a r ih => intro A; have := ih (putT A a); have := putT_tsum A a; simp only [List.foldl_cons, tsum]; omega
  have h1 := h L []
  have h2 := setT_len L
  unfold tsz setT at *
  simp only [tsum] at h1
  omega
def vars (L : List ByteArray) : List ByteArray := L.filter isVarB
theorem vars_len (L : List ByteArray) : (vars L).length ≤ L.length := List.length_filter_le _ _
theorem vars_tsz (L : List ByteArray) : tsz (vars L) ≤ tsz L := by
  have h : tsum (vars L) ≤ tsum L := by
    unfold vars
    induction L with
    | nil => simp [tsum]
    | cons p r ih => rw [List.filter_cons]; split <;> simp only [tsum] <;> omega
  have := vars_len L
  unfold tsz; omega
def varsP (p : FactV) : List ByteArray := setT (vars p.args)
def termsC (c : CondV) : List ByteArray := c.pat.args ++ [c.left, c.right]
def varsC (c : CondV) : List ByteArray := setT (vars (termsC c))
theorem varsP_tsz (p : FactV) : tsz (varsP p) ≤ fsz p := by
  have h1 := setT_tsz (vars p.args)
  have h2 := vars_tsz p.args
  unfold varsP fsz; omega
theorem termsC_tsz (c : CondV) : tsz (termsC c) ≤ csz c + 2 := by
  unfold termsC csz fsz tsz
  rw [tsum_append, List.length_append]
  simp only [tsum, List.length_cons, List.length_nil]; omega
theorem varsC_tsz (c : CondV) : tsz (varsC c) ≤ csz c + 2 := by
  have h1 := setT_tsz (vars (termsC c))
  have h2 := vars_tsz (termsC c)
  have h3 := termsC_tsz c
  unfold varsC; omega
theorem setT_snoc (L : List ByteArray) (s : ByteArray) : setT (L ++ [s]) = putT (setT L) s := by unfold setT; rw [List.foldl_append]; rfl
theorem varsC_eq (c : CondV) : varsC c = (if isVarB c.right then putT (if isVarB c.left then putT (varsP c.pat) c.left else varsP c.pat) c.right else (if isVarB c.left then putT (varsP c.pat) c.left else varsP c.pat)) := by
  unfold varsC termsC varsP vars
  rw [List.filter_append]
  cases h1 : isVarB c.left <;> cases h2 : isVarB c.right
  · simp [h1, h2]
  · simp only [List.filter_cons, h1, h2, List.filter_nil]; simp [setT_snoc]
  · simp only [List.filter_cons, h1, h2, List.filter_nil]; simp [setT_snoc]
  · simp only [List.filter_cons, h1, h2, List.filter_nil, if_true]
    rw [show (c.pat.args.filter isVarB ++ [c.left, c.right]) = (c.pat.args.filter isVarB ++ [c.left]) ++ [c.right] by simp, setT_snoc, setT_snoc]
set_option maxHeartbeats 1000000 in
theorem cVars {v : Value} {x : List ByteArray} {lo hi : Nat} {w : World} (h : Ob TX w lo hi v x) (hz : tsz x ≤ 4194304) :
    Calls Try.prog 115 #[v] w fun e w' => ∃ v', e = .returned v' ∧ Ob (TO 9) w' w.heap.size w'.heap.size v' (vars x) ∧ Up w w' := by
  have hlen := tsz_len hz
  obtain ⟨a, cap, rfl⟩ := h.1.form
  obtain ⟨i0, hi0, hz0, hz1, hz2⟩ := info_parts Try.infoStr
  have HV := Lib.hid h
  have HZ : Hid (∀ s ∈ x, s.size ≤ maxLen) := fun s hs => by have := tsum_mem hs; unfold tsz at hz; unfold maxLen; omega
  clear h hz
  go_enter Try.func115, Try.ntmps115
  go_wp2_with fail
  go_loopw [3, 8] (fun o i wr => ∃ (k : Nat), k ≤ x.length ∧ i = .int .i64 k ∧ Up w wr ∧ Hid (TO 9 wr w.heap.size wr.heap.size o ((x.take k).filter isVarB))) (fun _ i _ => x.length - (intOf i).toNat)
  case atStart => exact ⟨0, Nat.zero_le _, rfl, Up.rf w, TO.nil_ _ _ _ _⟩
  case round =>
    obtain ⟨k, hk, rfl, hb, HP⟩ := hrel
    by_cases hlt : k < x.length
    · obtain ⟨b, off, rfl, -, -, c0⟩ := (HV.out.up hb).1.at hlt
      have i1 : (0 : Int) ≤ (k : Int) := by omega
      have i2 : (k : Int) < (x.length : Int) := by omega
      have hsz := HZ.out x[k] (List.getElem_mem hlt)
      have hln := filter_take_len x isVarB k
      have hln2 : ((x.take k).filter isVarB).length ≤ 4194304 := by omega
      have hba : w.heap.size ≤ (wr.alloc (.cells #[.string x[k]] 9)).heap.size := by have := hb.size; simp; omega
      have HN := Lib.hid (news1 (Blk.new wr 9 #[.string x[k]]))
      clear hln
      cases hq : isVarB x[k]
      · have HF : Hid ((x.take (k + 1)).filter isVarB = (x.take k).filter isVarB) := filter_take_f hlt hq
        go_wp2_with (go_at_call 124; refine (var_any _ _ hsz).mono ?_; rintro e w1 ⟨rfl, rfl⟩)
        exact ⟨⟨k+1, by omega, by go_num, hb, by have h := HP.out; rw [← HF.out] at h; exact h⟩, by simp [intOf]; omega⟩
      · have HF : Hid ((x.take (k + 1)).filter isVarB = (x.take k).filter isVarB ++ [x[k]]) := filter_take_t hlt hq
        go_wp2_with (first
          | (go_at_call 124; refine (var_any _ _ hsz).mono ?_; rintro e w1 ⟨rfl, rfl⟩)
          | (at_builtin; refine wpList_append_own _ rfl _ _ 22 rfl w.heap.size 9 i0 _ 1 16 Try.underlying22 hi0 hz0 hz1 hz2 rfl (by decide) _ ((x.take k).filter isVarB).length (((x.take k).filter isVarB).map Value.string) rfl (HP.out.1.alloc _) ⟨wr.heap.size, 0, none⟩ 1 1 [.string x[k]] rfl rfl HN.out (one1 rfl) (by unfold maxLen; omega) (by omega) hba ?_; intro v2 w2 hown' hgrow _))
        have hb2 : Up w w2 := (hb.al _).grown hgrow (fun g hg => (HP.out.1.lt g hg).1)
        have hP2 : Hid (TO 9 w2 w.heap.size w2.heap.size v2 ((x.take (k + 1)).filter isVarB)) := by show TO _ _ _ _ _ _; rw [HF.out]; exact TO.snoc hown'
        clear hown' hgrow HP HN
        go_wp2
        exact ⟨⟨k+1, by omega, by go_num, hb2, hP2.out⟩, by simp [intOf]; omega⟩
    · go_wp2
      go_ret
      have e : (x.take k).filter isVarB = vars x := by rw [List.take_of_length_le (by omega)]; rfl
      exact ⟨_, rfl, ⟨by rw [← e]; exact HP.out, Nat.le_refl _⟩, hb⟩
set_option maxHeartbeats 1000000 in
theorem cVarsOf {v : Value} {p : FactV} {lo hi : Nat} {w : World} (h : Ob AF w lo hi v p) (hz : fsz p ≤ 1048576) :
    Calls Try.prog 72 #[v] w fun e w' => ∃ v', e = .returned v' ∧ Ob (TO 9) w' w.heap.size w'.heap.size v' (varsP p) ∧ Up w w' := by
  have hz2 : tsz p.args ≤ 4194304 := by unfold fsz at hz; omega
  have hz3 : (vars p.args).length ≤ 4194304 := by have := vars_len p.args; have := tsz_len hz2; omega
  obtain ⟨a, cap, rfl⟩ := h.1.form
  have hb0 : Up w (w.alloc (.cells #[.string p.rel, .slice a p.args.length cap] 30)) := Up.al1 _ _
  have HT := Lib.hid (AF.tx9 (h.up hb0))
  have HB := Lib.hid hb0
  have hs0 := hb0.size
  clear h hb0
  go_enter Try.func72, Try.ntmps72
  go_wp2_with fail
  generalize (w.alloc (.cells #[.string p.rel, .slice a p.args.length cap] 30)) = W at *
  refine (cVars HT.out hz2).mono ?_
  rintro e w1 ⟨v1, rfl, ho, b1⟩
  have HO := Lib.hid ho.tx
  have HB1 := Lib.hid (HB.out.tr b1)
  have hs1 := b1.size
  clear ho b1
  go_wp2_with fail
  refine (cSorted HO.out hz3).mono ?_
  rintro e w2 ⟨v2, rfl, ho, b2⟩
  have HO2 := Lib.hid (show Ob (TO 9) w2 w.heap.size w2.heap.size v2 (varsP p) from ⟨ho.1.mono (by omega) (Nat.le_refl _), Nat.le_refl _⟩)
  have HB2 := Lib.hid (HB1.out.tr b2)
  clear ho b2
  go_wp2
  go_ret
  exact ⟨_, rfl, HO2.out, HB2.out⟩
set_option maxHeartbeats 1000000 in
theorem cVarsOfS {v : Value} {p : FactV} {lo hi : Nat} {w : World} (h : Ob AF w lo hi v p) (hz : fsz p ≤ 1048576) :
    Calls Try.prog 71 #[v] w fun e w' => ∃ v', e = .returned v' ∧ Ob (TO 9) w' w.heap.size w'.heap.size v' (varsP p) ∧ Up w w' := by
  have HZ := Lib.hid (fsz_arg' hz)
  have hlen : p.args.length ≤ 1048576 := by unfold fsz tsz at hz; omega
  clear hz
  obtain ⟨a, cap, rfl⟩ := h.1.form
  have hb0 : Up w (w.alloc (.cells #[.string p.rel, .slice a p.args.length cap] 30)) := Up.al1 _ _
  have HT := Lib.hid (AF.tx9 (h.up hb0))
  have HK := Lib.hid (Blk.new w 30 #[.string p.rel, .slice a p.args.length cap])
  have HB := Lib.hid hb0
  have hws : (w.alloc (.cells #[.string p.rel, .slice a p.args.length cap] 30)).heap.size = w.heap.size + 1 := by simp
  clear h hb0
  go_enter Try.func71, Try.ntmps71
  go_wp2_with fail
  generalize (w.alloc (.cells #[.string p.rel, .slice a p.args.length cap] 30)) = W at *
  have HWS := Lib.hid hws
  clear hws
  go_loopw [3, 4] (fun o i wr => ∃ (k : Nat), k ≤ p.args.length ∧ i = .int .i64 k ∧ Up W wr ∧ Hid (TO 9 wr W.heap.size wr.heap.size o (setT ((p.args.take k).filter isVarB)))) (fun _ i _ => p.args.length - (intOf i).toNat)
  case atStart => exact ⟨0, Nat.zero_le _, rfl, Up.al1 _ _, by have h := TO.made_ 9 W; rw [show (Value.slice (some ⟨W.heap.size, 0, none⟩) 0 0) = .slice (some ⟨w.heap.size + 1, 0, none⟩) 0 0 by rw [HWS.out]] at h; exact h⟩
  case round =>
    obtain ⟨k, hk, rfl, hb, HP⟩ := hrel
    have k1 := (HK.out.up hb).cell1
    by_cases hlt : k < p.args.length
    · obtain ⟨b, off, rfl, -, -, c0⟩ := (HT.out.up hb).1.at hlt
      have i1 : (0 : Int) ≤ (k : Int) := by omega
      have i2 : (k : Int) < (p.args.length : Int) := by omega
      have hsz : p.args[k].size ≤ maxLen := by have := HZ.out k hlt; unfold maxLen; omega
      have hln := setT_len ((p.args.take k).filter isVarB)
      have hln1 := filter_take_len p.args isVarB k
      have hln2 : (setT ((p.args.take k).filter isVarB)).length ≤ 4194304 := by omega
      have hbs := hb.size
      clear hln hln1
      cases hq : isVarB p.args[k]
      · have HF : Hid ((p.args.take (k + 1)).filter isVarB = (p.args.take k).filter isVarB) := filter_take_f hlt hq
        go_wp2_with (go_at_call 114; refine (varS_any _ _ hsz).mono ?_; rintro e w1 ⟨rfl, rfl⟩)
        exact ⟨⟨k+1, by omega, by go_num, hb, by have h := HP.out; rw [← HF.out] at h; exact h⟩, by simp [intOf]; omega⟩
      · have HF : Hid (setT ((p.args.take (k + 1)).filter isVarB) = putT (setT ((p.args.take k).filter isVarB)) p.args[k]) := by show _ = _; rw [filter_take_t hlt hq, setT_snoc]
        have HO := Lib.hid (show Ob TX wr W.heap.size wr.heap.size _ (setT ((p.args.take k).filter isVarB)) from ⟨HP.out.tx, Nat.le_refl _⟩)
        clear HP
        go_wp2_with (first
          | (go_at_call 114; refine (varS_any _ _ hsz).mono ?_; rintro e w1 ⟨rfl, rfl⟩)
          | (go_at_call 110; refine (cl1Put HO.out hln2).mono ?_; rintro e w1 ⟨v1, rfl, ho, b1⟩))
        have hP1 : Hid (TO 9 w1 W.heap.size w1.heap.size v1 (setT ((p.args.take (k + 1)).filter isVarB))) := by show TO _ _ _ _ _ _; rw [HF.out]; exact ho.1.mono hbs (Nat.le_refl _)
        have hb1 := hb.tr b1
        clear ho b1 hb HO k1 c0
        go_wp2
        exact ⟨⟨k+1, by omega, by go_num, hb1, hP1.out⟩, by simp [intOf]; omega⟩
    · have e : Hid (setT ((p.args.take k).filter isVarB) = varsP p) := by show _ = _; rw [List.take_of_length_le (by omega)]; rfl
      go_wp2
      go_ret
      exact ⟨_, rfl, ⟨by rw [← e.out]; exact HP.out.mono HB.out.size (Nat.le_refl _), Nat.le_refl _⟩, HB.out.tr hb⟩
end Go.Proofs.Ytojgkodffmdnpaa
