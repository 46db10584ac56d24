/- MatchFact, the program's and the reference's: one plain function of the pattern, the fact and the binding; wherever the lengths can be counted. -/
import Derived.Test.YtojgkodffmdnpaaExt
namespace Go.Proofs.Ytojgkodffmdnpaa
open Go.RowKit
attribute [local go_sem ↓] Go.wp_at_zero Go.wp_at_succ
set_option linter.unusedVariables false
theorem mtV_1 {p f : FactV} {x : Prs} (h : isPatB p = false) : mtV p f x = none := by unfold mtV; rw [h]; simp
theorem mtV_2 {p f : FactV} {x : Prs} (h : isFactB f = false) : mtV p f x = none := by unfold mtV; rw [h]; simp
theorem mtV_3 {p f : FactV} {x : Prs} (h : isBindB x = false) : mtV p f x = none := by unfold mtV; rw [h]; simp
theorem mtV_4 {p f : FactV} {x : Prs} (h : (p.rel.toList == f.rel.toList) = false) : mtV p f x = none := by unfold mtV; simp [str_eq_f h]
theorem mtV_5 {p f : FactV} {x : Prs} (h : p.args.length ≠ f.args.length) : mtV p f x = none := by unfold mtV; simp [h]
theorem mtV_0 {p f : FactV} {x : Prs} (h1 : isPatB p = true) (h2 : isFactB f = true) (h3 : isBindB x = true) (h4 : (p.rel.toList == f.rel.toList) = true) (h5 : p.args.length = f.args.length) : mtV p f x = mtL (p.args.drop 0) (f.args.drop 0) x := by
  unfold mtV; rw [h1, h2, h3, str_eq_t h4, h5]; simp
theorem oL_mt_psz (p f : FactV) (b : Prs) : psz (oL (mtV p f b)) ≤ 126 := by
  cases h : mtV p f b with
  | none => simp [oL, psz, psum]
  | some c => have := mtV_psz h; simp [oL]; omega
theorem fsz_rel' {f : FactV} (h : fsz f ≤ 1048576) : f.rel.size ≤ 1048576 := by unfold fsz at h; omega
theorem fsz_arg' {f : FactV} (h : fsz f ≤ 1048576) (k : Nat) (hk : k < f.args.length) : f.args[k].size ≤ 1048576 := by
  have := tsum_mem (List.getElem_mem hk); unfold fsz tsz at h; omega
theorem ext_none {x : Prs} {v u : ByteArray} (h : extV x v u = none) : (extV x v u).isSome = false := by rw [h]; rfl
theorem ext_some {x c : Prs} {v u : ByteArray} (h : extV x v u = some c) : (extV x v u).isSome = true ∧ oL (extV x v u) = c := by rw [h]; exact ⟨rfl, rfl⟩
theorem AF.tx9 {w : World} {lo hi n c : Nat} {r : ByteArray} {a : Option Addr} {f : FactV} (h : Ob AF w lo hi (.agg #[.string r, .slice a n c]) f) : Ob TX w lo hi (.slice a n c) f.args := by
  obtain ⟨⟨cs, e1, av, e2, ht⟩, hh⟩ := h
  subst e2
  have e3 : Value.slice a n c = av := by have := e1; simp at this; exact this.2
  subst e3
  exact ⟨ht, hh⟩
set_option maxHeartbeats 4000000 in
set_option maxRecDepth 100000 in
theorem cMatch {vp vf vx : Value} {p f : FactV} {x : Prs} {lo hi lo' hi' lo'' hi'' : Nat} {w : World} (hp : Ob AF w lo hi vp p) (hf : Ob AF w lo' hi' vf f) (hx : Ob SP w lo'' hi'' vx x) (zp : fsz p ≤ 1048576) (zf : fsz f ≤ 1048576) (zx : psz x ≤ 1048576) :
    Calls Try.prog 58 #[vp, vf, vx] w fun e w' => ∃ v', e = .returned (.tuple #[v', .bool (mtV p f x).isSome]) ∧ Ob (PO 111) w' w.heap.size w'.heap.size v' (oL (mtV p f x)) ∧ Up w w' := by
  obtain ⟨pa, pc, rfl⟩ := hp.1.form
  obtain ⟨fa, fc, rfl⟩ := hf.1.form
  obtain ⟨xa, xc, rfl⟩ := hx.1.form
  have hb0 : Up w ((w.alloc (.cells #[.string p.rel, .slice pa p.args.length pc] 30)).alloc (.cells #[.string f.rel, .slice fa f.args.length fc] 79)) := (Up.al1 _ _).al _
  have hk0 : Blk ((w.alloc (.cells #[.string p.rel, .slice pa p.args.length pc] 30)).alloc (.cells #[.string f.rel, .slice fa f.args.length fc] 79)) w.heap.size 30 #[.string p.rel, .slice pa p.args.length pc] := (Blk.new w 30 #[.string p.rel, .slice pa p.args.length pc]).alloc _
  have hk1 : Blk ((w.alloc (.cells #[.string p.rel, .slice pa p.args.length pc] 30)).alloc (.cells #[.string f.rel, .slice fa f.args.length fc] 79)) (w.heap.size + 1) 79 #[.string f.rel, .slice fa f.args.length fc] := by
    have := Blk.new (w.alloc (.cells #[.string p.rel, .slice pa p.args.length pc] 30)) 79 #[.string f.rel, .slice fa f.args.length fc]
    simpa using this
  have HP := Lib.hid (hp.up hb0)
  have HF := Lib.hid (hf.up hb0)
  have HX := Lib.hid (hx.up hb0)
  have HPT : Hid (Ob TX ((w.alloc (.cells #[.string p.rel, .slice pa p.args.length pc] 30)).alloc (.cells #[.string f.rel, .slice fa f.args.length fc] 79)) lo hi (.slice pa p.args.length pc) p.args) := AF.tx9 (hp.up hb0)
  have HFT : Hid (Ob TX ((w.alloc (.cells #[.string p.rel, .slice pa p.args.length pc] 30)).alloc (.cells #[.string f.rel, .slice fa f.args.length fc] 79)) lo' hi' (.slice fa f.args.length fc) f.args) := AF.tx9 (hf.up hb0)
  have plen := (AF.tx9 hp).1.len
  have flen := (AF.tx9 hf).1.len
  have KP := Lib.hid hk0
  have KF := Lib.hid hk1
  have HB := Lib.hid hb0
  clear hp hf hx hb0 hk0 hk1
  cases h1 : isPatB p
  · have HE := Lib.hid (mtV_1 (f := f) (x := x) h1)
    go_enter Try.func58, Try.ntmps58
    go_wp2_with fail
    generalize ((w.alloc (.cells #[.string p.rel, .slice pa p.args.length pc] 30)).alloc (.cells #[.string f.rel, .slice fa f.args.length fc] 79)) = W at *
    refine (cIsPattern HP.out zp).mono ?_
    rintro e w1 ⟨rfl, b1⟩
    rw [h1]
    have HB := Lib.hid (HB.out.tr b1)
    clear b1
    go_wp2
    go_ret2
    exact ⟨_, ret_pb (by rw [HE.out]; rfl), PO.none_ HE.out, HB.out⟩
  cases h2 : isFactB f
  · have HE := Lib.hid (mtV_2 (p := p) (x := x) h2)
    go_enter Try.func58, Try.ntmps58
    go_wp2_with fail
    generalize ((w.alloc (.cells #[.string p.rel, .slice pa p.args.length pc] 30)).alloc (.cells #[.string f.rel, .slice fa f.args.length fc] 79)) = W at *
    refine (cIsPattern HP.out zp).mono ?_
    rintro e w1 ⟨rfl, b1⟩
    rw [h1]
    have k0 := (KP.out.up b1).cell0; have k1 := (KP.out.up b1).cell1; have l0 := (KF.out.up b1).cell0; have l1 := (KF.out.up b1).cell1
    go_wp2_with fail
    clear k0 k1 l0 l1
    refine (cIsFact (HF.out.up b1) zf).mono ?_
    rintro e w2 ⟨rfl, b2⟩
    rw [h2]
    have b12 := Up.tr b1 b2
    clear b1 b2
    have HB := Lib.hid (HB.out.tr b12)
    clear b12
    go_wp2
    go_ret2
    exact ⟨_, ret_pb (by rw [HE.out]; rfl), PO.none_ HE.out, HB.out⟩
  cases h3 : isBindB x
  · have HE := Lib.hid (mtV_3 (p := p) (f := f) h3)
    go_enter Try.func58, Try.ntmps58
    go_wp2_with fail
    generalize ((w.alloc (.cells #[.string p.rel, .slice pa p.args.length pc] 30)).alloc (.cells #[.string f.rel, .slice fa f.args.length fc] 79)) = W at *
    refine (cIsPattern HP.out zp).mono ?_
    rintro e w1 ⟨rfl, b1⟩
    rw [h1]
    have k0 := (KP.out.up b1).cell0; have k1 := (KP.out.up b1).cell1; have l0 := (KF.out.up b1).cell0; have l1 := (KF.out.up b1).cell1
    go_wp2_with fail
    clear k0 k1 l0 l1
    refine (cIsFact (HF.out.up b1) zf).mono ?_
    rintro e w2 ⟨rfl, b2⟩
    rw [h2]
    have b12 := Up.tr b1 b2
    clear b1 b2
    go_wp2_with fail
    refine (cIsBinding (HX.out.up b12) zx).mono ?_
    rintro e w3 ⟨rfl, b3⟩
    rw [h3]
    have b13 := Up.tr b12 b3
    have k0 := (KP.out.up b13).cell0; have k1 := (KP.out.up b13).cell1; have l0 := (KF.out.up b13).cell0; have l1 := (KF.out.up b13).cell1
    clear b12 b3
    clear k0 k1 l0 l1
    have HB := Lib.hid (HB.out.tr b13)
    clear b13
    go_wp2
    go_ret2
    exact ⟨_, ret_pb (by rw [HE.out]; rfl), PO.none_ HE.out, HB.out⟩
  cases h4 : (p.rel.toList == f.rel.toList)
  · have HE := Lib.hid (mtV_4 (x := x) h4)
    go_enter Try.func58, Try.ntmps58
    go_wp2_with fail
    generalize ((w.alloc (.cells #[.string p.rel, .slice pa p.args.length pc] 30)).alloc (.cells #[.string f.rel, .slice fa f.args.length fc] 79)) = W at *
    refine (cIsPattern HP.out zp).mono ?_
    rintro e w1 ⟨rfl, b1⟩
    rw [h1]
    have k0 := (KP.out.up b1).cell0; have k1 := (KP.out.up b1).cell1; have l0 := (KF.out.up b1).cell0; have l1 := (KF.out.up b1).cell1
    go_wp2_with fail
    clear k0 k1 l0 l1
    refine (cIsFact (HF.out.up b1) zf).mono ?_
    rintro e w2 ⟨rfl, b2⟩
    rw [h2]
    have b12 := Up.tr b1 b2
    clear b1 b2
    go_wp2_with fail
    refine (cIsBinding (HX.out.up b12) zx).mono ?_
    rintro e w3 ⟨rfl, b3⟩
    rw [h3]
    have b13 := Up.tr b12 b3
    have k0 := (KP.out.up b13).cell0; have k1 := (KP.out.up b13).cell1; have l0 := (KF.out.up b13).cell0; have l1 := (KF.out.up b13).cell1
    clear b12 b3
    go_wp2_with fail
    clear k0 k1 l0 l1
    have HB := Lib.hid (HB.out.tr b13)
    clear b13
    go_wp2
    go_ret2
    exact ⟨_, ret_pb (by rw [HE.out]; rfl), PO.none_ HE.out, HB.out⟩
  by_cases h5 : (p.args.length : Int) = (f.args.length : Int)
  · have h5n : p.args.length = f.args.length := by omega
    have HM := Lib.hid (mtV_0 h1 h2 h3 h4 h5n)
    have HX0 := Lib.hid (isBindB_psz h3)
    have HL := Lib.hid h5n
    clear h5n
    go_enter Try.func58, Try.ntmps58
    go_wp2_with fail
    generalize ((w.alloc (.cells #[.string p.rel, .slice pa p.args.length pc] 30)).alloc (.cells #[.string f.rel, .slice fa f.args.length fc] 79)) = W at *
    refine (cIsPattern HP.out zp).mono ?_
    rintro e w1 ⟨rfl, b1⟩
    rw [h1]
    have k0 := (KP.out.up b1).cell0; have k1 := (KP.out.up b1).cell1; have l0 := (KF.out.up b1).cell0; have l1 := (KF.out.up b1).cell1
    go_wp2_with fail
    clear k0 k1 l0 l1
    refine (cIsFact (HF.out.up b1) zf).mono ?_
    rintro e w2 ⟨rfl, b2⟩
    rw [h2]
    have b12 := Up.tr b1 b2
    clear b1 b2
    go_wp2_with fail
    refine (cIsBinding (HX.out.up b12) zx).mono ?_
    rintro e w3 ⟨rfl, b3⟩
    rw [h3]
    have b13 := Up.tr b12 b3
    have k0 := (KP.out.up b13).cell0; have k1 := (KP.out.up b13).cell1; have l0 := (KF.out.up b13).cell0; have l1 := (KF.out.up b13).cell1
    clear b12 b3
    go_wp2_with fail
    clear k0 k1 l0 l1
    refine (cCopyP (HX.out.up b13) (by have := psz_len x; omega)).mono ?_
    rintro e w4 ⟨v4, rfl, ho, b4⟩
    have b14 := Up.tr b13 b4
    have HO := Lib.hid (show PO 111 w4 w.heap.size w4.heap.size v4 x from ho.1.mono (Nat.le_trans HB.out.size b13.size) (Nat.le_refl _))
    replace HP := Lib.hid (HP.out.up b14); replace HF := Lib.hid (HF.out.up b14); replace HPT := Lib.hid (HPT.out.up b14); replace HFT := Lib.hid (HFT.out.up b14)
    replace KP := Lib.hid (KP.out.up b14); replace KF := Lib.hid (KF.out.up b14); replace HB := Lib.hid (HB.out.tr b14)
    clear ho b13 b4 b14 HX h1 h2 h3 h4
    have k1 := KP.out.cell1
    go_wp2_with fail
    clear k1
    go_loopw [8, 47] (fun o i wr => ∃ (k : Nat) (cur : Prs), k ≤ p.args.length ∧ i = .int .i64 k ∧ Up w4 wr ∧ Hid (PO 111 wr w.heap.size wr.heap.size o cur) ∧ Hid (psz cur ≤ 126) ∧ Hid (mtV p f x = mtL (p.args.drop k) (f.args.drop k) cur)) (fun _ i _ => p.args.length - (intOf i).toNat)
    case atStart => exact ⟨0, x, Nat.zero_le _, rfl, Up.rf _, HO.out, Nat.le_trans HX0.out (by omega), HM.out⟩
    case round =>
      clear HO HX0 HM
      obtain ⟨k, cur, hk, rfl, hb, HO, HZ, HM⟩ := hrel
      have k1 := (KP.out.up hb).cell1; have l1 := (KF.out.up hb).cell1
      by_cases hlt : k < p.args.length
      · have hlt' : k < f.args.length := by have := HL.out; omega
        obtain ⟨b, off, rfl, -, -, c0⟩ := (HPT.out.up hb).1.at hlt
        obtain ⟨b', off', rfl, -, -, d0⟩ := (HFT.out.up hb).1.at hlt'
        have i1 : (0 : Int) ≤ (k : Int) := by omega
        have i2 : (k : Int) < (p.args.length : Int) := by omega
        have i3 : (k : Int) < (f.args.length : Int) := by omega
        have hsp := fsz_arg' zp k hlt
        have hsf := fsz_arg' zf k hlt'
        have HQ := Lib.hid (mtL_at cur hlt hlt')
        cases hA : isAtomB p.args[k]
        · cases hE : extV cur p.args[k] f.args[k] with
          | none =>
            have HE : Hid (mtV p f x = none) := by have h := HQ.out; rw [hA, hE] at h; exact HM.out.trans h
            have HS := Lib.hid (ext_none hE)
            clear HQ hE
            have hzc : psz cur ≤ 1048576 := by have := HZ.out; omega
            have HOB := Lib.hid (show Ob (PO 111) wr w.heap.size wr.heap.size _ cur from ⟨HO.out, Nat.le_refl _⟩)
            clear HO
            go_wp2_with fail
            refine (atom_any _ _ (by unfold maxLen; omega)).mono ?_
            rintro e w' ⟨rfl, rfl⟩
            rw [hA]
            go_wp2_with fail
            refine (cExtend HOB.out.sp hzc hsp hsf).mono ?_
            rintro e w5 ⟨v5, rfl, ho, b7⟩
            have ho5 := (show PO 111 w5 w.heap.size w5.heap.size v5 _ from ho.1.mono (Nat.le_trans HB.out.size hb.size) (Nat.le_refl _))
            have HO5 := Lib.hid ho5
            have HB5 := Lib.hid (hb.tr b7)
            clear ho ho5 b7 hb HOB k1 l1 c0 d0
            rw [HS.out]
            have HB := Lib.hid (HB.out.tr HB5.out)
            clear HB5
            go_wp2
            go_ret2
            exact ⟨_, ret_pb (by rw [HE.out]; rfl), PO.none_ HE.out, HB.out⟩
          | some c =>
            have HE : Hid (mtV p f x = mtL (p.args.drop (k + 1)) (f.args.drop (k + 1)) c) := by have h := HQ.out; rw [hA, hE] at h; exact HM.out.trans h
            have HS := Lib.hid (ext_some hE)
            have HZ2 := Lib.hid (extV_psz hE)
            clear HQ hE
            have hzc : psz cur ≤ 1048576 := by have := HZ.out; omega
            have HOB := Lib.hid (show Ob (PO 111) wr w.heap.size wr.heap.size _ cur from ⟨HO.out, Nat.le_refl _⟩)
            clear HO
            go_wp2_with fail
            refine (atom_any _ _ (by unfold maxLen; omega)).mono ?_
            rintro e w' ⟨rfl, rfl⟩
            rw [hA]
            go_wp2_with fail
            refine (cExtend HOB.out.sp hzc hsp hsf).mono ?_
            rintro e w5 ⟨v5, rfl, ho, b7⟩
            have ho5 := (show PO 111 w5 w.heap.size w5.heap.size v5 _ from ho.1.mono (Nat.le_trans HB.out.size hb.size) (Nat.le_refl _))
            have HO5 := Lib.hid ho5
            have HB5 := Lib.hid (hb.tr b7)
            clear ho ho5 b7 hb HOB k1 l1 c0 d0
            rw [HS.out.1]
            go_wp2
            exact ⟨⟨k+1, c, by omega, by go_num, HB5.out, by have h := HO5.out; rw [HS.out.2] at h; exact h, HZ2.out, HE.out⟩, by simp [intOf]; omega⟩
        · cases hq : (p.args[k].toList == f.args[k].toList)
          · have HE : Hid (mtV p f x = none) := by have h := HQ.out; rw [hA] at h; rw [if_pos rfl, if_neg (str_eq_f hq)] at h; exact HM.out.trans h
            clear HQ
            go_wp2_with fail
            refine (atom_any _ _ (by unfold maxLen; omega)).mono ?_
            rintro e w' ⟨rfl, rfl⟩
            rw [hA]
            go_wp2
            go_ret2
            exact ⟨_, ret_pb (by rw [HE.out]; rfl), PO.none_ HE.out, (HB.out.tr hb)⟩
          · have HE : Hid (mtV p f x = mtL (p.args.drop (k + 1)) (f.args.drop (k + 1)) cur) := by have h := HQ.out; rw [hA] at h; rw [if_pos rfl, if_pos (str_eq_t hq)] at h; exact HM.out.trans h
            clear HQ
            go_wp2_with fail
            refine (atom_any _ _ (by unfold maxLen; omega)).mono ?_
            rintro e w' ⟨rfl, rfl⟩
            rw [hA]
            go_wp2
            exact ⟨⟨k+1, cur, by omega, by go_num, hb, HO.out, HZ.out, HE.out⟩, by simp [intOf]; omega⟩
      · have HE : Hid (mtV p f x = some cur) := by have h := HM.out; rwa [mtL_end _ _ _ _ (by omega)] at h
        go_wp2
        go_ret2
        exact ⟨_, ret_pb (by rw [HE.out]; rfl), by rw [HE.out]; exact ⟨HO.out, Nat.le_refl _⟩, HB.out.tr hb⟩
  · have HE := Lib.hid (mtV_5 (p := p) (f := f) (x := x) (by omega))
    have h5b : ((p.args.length : Int) == (f.args.length : Int)) = false := by simpa using h5
    go_enter Try.func58, Try.ntmps58
    go_wp2_with fail
    generalize ((w.alloc (.cells #[.string p.rel, .slice pa p.args.length pc] 30)).alloc (.cells #[.string f.rel, .slice fa f.args.length fc] 79)) = W at *
    refine (cIsPattern HP.out zp).mono ?_
    rintro e w1 ⟨rfl, b1⟩
    rw [h1]
    have k0 := (KP.out.up b1).cell0; have k1 := (KP.out.up b1).cell1; have l0 := (KF.out.up b1).cell0; have l1 := (KF.out.up b1).cell1
    go_wp2_with fail
    clear k0 k1 l0 l1
    refine (cIsFact (HF.out.up b1) zf).mono ?_
    rintro e w2 ⟨rfl, b2⟩
    rw [h2]
    have b12 := Up.tr b1 b2
    clear b1 b2
    go_wp2_with fail
    refine (cIsBinding (HX.out.up b12) zx).mono ?_
    rintro e w3 ⟨rfl, b3⟩
    rw [h3]
    have b13 := Up.tr b12 b3
    have k0 := (KP.out.up b13).cell0; have k1 := (KP.out.up b13).cell1; have l0 := (KF.out.up b13).cell0; have l1 := (KF.out.up b13).cell1
    clear b12 b3
    go_wp2_with fail
    clear k0 k1 l0 l1
    have HB := Lib.hid (HB.out.tr b13)
    clear b13
    go_wp2
    go_ret2
    exact ⟨_, ret_pb (by rw [HE.out]; rfl), PO.none_ HE.out, HB.out⟩
set_option maxHeartbeats 4000000 in
set_option maxRecDepth 100000 in
theorem cMatchS {vp vf vx : Value} {p f : FactV} {x : Prs} {lo hi lo' hi' lo'' hi'' : Nat} {w : World} (hp : Ob AF w lo hi vp p) (hf : Ob AF w lo' hi' vf f) (hx : Ob SP w lo'' hi'' vx x) (zp : fsz p ≤ 1048576) (zf : fsz f ≤ 1048576) (zx : psz x ≤ 1048576) :
    Calls Try.prog 56 #[vp, vf, vx] w fun e w' => ∃ v', e = .returned (.tuple #[v', .bool (mtV p f x).isSome]) ∧ Ob (PO 111) w' w.heap.size w'.heap.size v' (oL (mtV p f x)) ∧ Up w w' := by
  obtain ⟨pa, pc, rfl⟩ := hp.1.form
  obtain ⟨fa, fc, rfl⟩ := hf.1.form
  obtain ⟨xa, xc, rfl⟩ := hx.1.form
  have hb0 : Up w ((w.alloc (.cells #[.string p.rel, .slice pa p.args.length pc] 30)).alloc (.cells #[.string f.rel, .slice fa f.args.length fc] 79)) := (Up.al1 _ _).al _
  have hk0 : Blk ((w.alloc (.cells #[.string p.rel, .slice pa p.args.length pc] 30)).alloc (.cells #[.string f.rel, .slice fa f.args.length fc] 79)) w.heap.size 30 #[.string p.rel, .slice pa p.args.length pc] := (Blk.new w 30 #[.string p.rel, .slice pa p.args.length pc]).alloc _
  have hk1 : Blk ((w.alloc (.cells #[.string p.rel, .slice pa p.args.length pc] 30)).alloc (.cells #[.string f.rel, .slice fa f.args.length fc] 79)) (w.heap.size + 1) 79 #[.string f.rel, .slice fa f.args.length fc] := by
    have := Blk.new (w.alloc (.cells #[.string p.rel, .slice pa p.args.length pc] 30)) 79 #[.string f.rel, .slice fa f.args.length fc]
    simpa using this
  have HP := Lib.hid (hp.up hb0)
  have HF := Lib.hid (hf.up hb0)
  have HX := Lib.hid (hx.up hb0)
  have HPT : Hid (Ob TX ((w.alloc (.cells #[.string p.rel, .slice pa p.args.length pc] 30)).alloc (.cells #[.string f.rel, .slice fa f.args.length fc] 79)) lo hi (.slice pa p.args.length pc) p.args) := AF.tx9 (hp.up hb0)
  have HFT : Hid (Ob TX ((w.alloc (.cells #[.string p.rel, .slice pa p.args.length pc] 30)).alloc (.cells #[.string f.rel, .slice fa f.args.length fc] 79)) lo' hi' (.slice fa f.args.length fc) f.args) := AF.tx9 (hf.up hb0)
  have plen := (AF.tx9 hp).1.len
  have flen := (AF.tx9 hf).1.len
  have KP := Lib.hid hk0
  have KF := Lib.hid hk1
  have HB := Lib.hid hb0
  clear hp hf hx hb0 hk0 hk1
  cases h1 : isPatB p
  · have HE := Lib.hid (mtV_1 (f := f) (x := x) h1)
    go_enter Try.func56, Try.ntmps56
    go_wp2_with fail
    generalize ((w.alloc (.cells #[.string p.rel, .slice pa p.args.length pc] 30)).alloc (.cells #[.string f.rel, .slice fa f.args.length fc] 79)) = W at *
    refine (cIsPatternS HP.out zp).mono ?_
    rintro e w1 ⟨rfl, b1⟩
    rw [h1]
    have HB := Lib.hid (HB.out.tr b1)
    clear b1
    go_wp2
    go_ret2
    exact ⟨_, ret_pb (by rw [HE.out]; rfl), PO.emp_ HE.out HB.out.size, HB.out.al _⟩
  cases h2 : isFactB f
  · have HE := Lib.hid (mtV_2 (p := p) (x := x) h2)
    go_enter Try.func56, Try.ntmps56
    go_wp2_with fail
    generalize ((w.alloc (.cells #[.string p.rel, .slice pa p.args.length pc] 30)).alloc (.cells #[.string f.rel, .slice fa f.args.length fc] 79)) = W at *
    refine (cIsPatternS HP.out zp).mono ?_
    rintro e w1 ⟨rfl, b1⟩
    rw [h1]
    have k0 := (KP.out.up b1).cell0; have k1 := (KP.out.up b1).cell1; have l0 := (KF.out.up b1).cell0; have l1 := (KF.out.up b1).cell1
    go_wp2_with fail
    clear k0 k1 l0 l1
    refine (cIsFactS (HF.out.up b1) zf).mono ?_
    rintro e w2 ⟨rfl, b2⟩
    rw [h2]
    have b12 := Up.tr b1 b2
    clear b1 b2
    have HB := Lib.hid (HB.out.tr b12)
    clear b12
    go_wp2
    go_ret2
    exact ⟨_, ret_pb (by rw [HE.out]; rfl), PO.emp_ HE.out HB.out.size, HB.out.al _⟩
  cases h3 : isBindB x
  · have HE := Lib.hid (mtV_3 (p := p) (f := f) h3)
    go_enter Try.func56, Try.ntmps56
    go_wp2_with fail
    generalize ((w.alloc (.cells #[.string p.rel, .slice pa p.args.length pc] 30)).alloc (.cells #[.string f.rel, .slice fa f.args.length fc] 79)) = W at *
    refine (cIsPatternS HP.out zp).mono ?_
    rintro e w1 ⟨rfl, b1⟩
    rw [h1]
    have k0 := (KP.out.up b1).cell0; have k1 := (KP.out.up b1).cell1; have l0 := (KF.out.up b1).cell0; have l1 := (KF.out.up b1).cell1
    go_wp2_with fail
    clear k0 k1 l0 l1
    refine (cIsFactS (HF.out.up b1) zf).mono ?_
    rintro e w2 ⟨rfl, b2⟩
    rw [h2]
    have b12 := Up.tr b1 b2
    clear b1 b2
    go_wp2_with fail
    refine (cIsBindingS (HX.out.up b12) zx).mono ?_
    rintro e w3 ⟨rfl, b3⟩
    rw [h3]
    have b13 := Up.tr b12 b3
    have k0 := (KP.out.up b13).cell0; have k1 := (KP.out.up b13).cell1; have l0 := (KF.out.up b13).cell0; have l1 := (KF.out.up b13).cell1
    clear b12 b3
    clear k0 k1 l0 l1
    have HB := Lib.hid (HB.out.tr b13)
    clear b13
    go_wp2
    go_ret2
    exact ⟨_, ret_pb (by rw [HE.out]; rfl), PO.emp_ HE.out HB.out.size, HB.out.al _⟩
  cases h4 : (p.rel.toList == f.rel.toList)
  · have HE := Lib.hid (mtV_4 (x := x) h4)
    go_enter Try.func56, Try.ntmps56
    go_wp2_with fail
    generalize ((w.alloc (.cells #[.string p.rel, .slice pa p.args.length pc] 30)).alloc (.cells #[.string f.rel, .slice fa f.args.length fc] 79)) = W at *
    refine (cIsPatternS HP.out zp).mono ?_
    rintro e w1 ⟨rfl, b1⟩
    rw [h1]
    have k0 := (KP.out.up b1).cell0; have k1 := (KP.out.up b1).cell1; have l0 := (KF.out.up b1).cell0; have l1 := (KF.out.up b1).cell1
    go_wp2_with fail
    clear k0 k1 l0 l1
    refine (cIsFactS (HF.out.up b1) zf).mono ?_
    rintro e w2 ⟨rfl, b2⟩
    rw [h2]
    have b12 := Up.tr b1 b2
    clear b1 b2
    go_wp2_with fail
    refine (cIsBindingS (HX.out.up b12) zx).mono ?_
    rintro e w3 ⟨rfl, b3⟩
    rw [h3]
    have b13 := Up.tr b12 b3
    have k0 := (KP.out.up b13).cell0; have k1 := (KP.out.up b13).cell1; have l0 := (KF.out.up b13).cell0; have l1 := (KF.out.up b13).cell1
    clear b12 b3
    go_wp2_with fail
    clear k0 k1 l0 l1
    have HB := Lib.hid (HB.out.tr b13)
    clear b13
    go_wp2
    go_ret2
    exact ⟨_, ret_pb (by rw [HE.out]; rfl), PO.emp_ HE.out HB.out.size, HB.out.al _⟩
  by_cases h5 : (p.args.length : Int) = (f.args.length : Int)
  · have h5n : p.args.length = f.args.length := by omega
    have HM := Lib.hid (mtV_0 h1 h2 h3 h4 h5n)
    have HX0 := Lib.hid (isBindB_psz h3)
    have HL := Lib.hid h5n
    clear h5n
    go_enter Try.func56, Try.ntmps56
    go_wp2_with fail
    generalize ((w.alloc (.cells #[.string p.rel, .slice pa p.args.length pc] 30)).alloc (.cells #[.string f.rel, .slice fa f.args.length fc] 79)) = W at *
    refine (cIsPatternS HP.out zp).mono ?_
    rintro e w1 ⟨rfl, b1⟩
    rw [h1]
    have k0 := (KP.out.up b1).cell0; have k1 := (KP.out.up b1).cell1; have l0 := (KF.out.up b1).cell0; have l1 := (KF.out.up b1).cell1
    go_wp2_with fail
    clear k0 k1 l0 l1
    refine (cIsFactS (HF.out.up b1) zf).mono ?_
    rintro e w2 ⟨rfl, b2⟩
    rw [h2]
    have b12 := Up.tr b1 b2
    clear b1 b2
    go_wp2_with fail
    refine (cIsBindingS (HX.out.up b12) zx).mono ?_
    rintro e w3 ⟨rfl, b3⟩
    rw [h3]
    have b13 := Up.tr b12 b3
    have k0 := (KP.out.up b13).cell0; have k1 := (KP.out.up b13).cell1; have l0 := (KF.out.up b13).cell0; have l1 := (KF.out.up b13).cell1
    clear b12 b3
    go_wp2_with fail
    clear k0 k1 l0 l1
    refine (cCopyPS (HX.out.up b13) (by have := psz_len x; omega)).mono ?_
    rintro e w4 ⟨v4, rfl, ho, b4⟩
    have b14 := Up.tr b13 b4
    have HO := Lib.hid (show PO 111 w4 w.heap.size w4.heap.size v4 x from ho.1.mono (Nat.le_trans HB.out.size b13.size) (Nat.le_refl _))
    replace HP := Lib.hid (HP.out.up b14); replace HF := Lib.hid (HF.out.up b14); replace HPT := Lib.hid (HPT.out.up b14); replace HFT := Lib.hid (HFT.out.up b14)
    replace KP := Lib.hid (KP.out.up b14); replace KF := Lib.hid (KF.out.up b14); replace HB := Lib.hid (HB.out.tr b14)
    clear ho b13 b4 b14 HX h1 h2 h3 h4
    have k1 := KP.out.cell1
    go_wp2_with fail
    clear k1
    go_loopw [8, 9] (fun o i wr => ∃ (k : Nat) (cur : Prs), k ≤ p.args.length ∧ i = .int .i64 k ∧ Up w4 wr ∧ Hid (PO 111 wr w.heap.size wr.heap.size o cur) ∧ Hid (psz cur ≤ 126) ∧ Hid (mtV p f x = mtL (p.args.drop k) (f.args.drop k) cur)) (fun _ i _ => p.args.length - (intOf i).toNat)
    case atStart => exact ⟨0, x, Nat.zero_le _, rfl, Up.rf _, HO.out, Nat.le_trans HX0.out (by omega), HM.out⟩
    case round =>
      clear HO HX0 HM
      obtain ⟨k, cur, hk, rfl, hb, HO, HZ, HM⟩ := hrel
      have k1 := (KP.out.up hb).cell1; have l1 := (KF.out.up hb).cell1
      by_cases hlt : k < p.args.length
      · have hlt' : k < f.args.length := by have := HL.out; omega
        obtain ⟨b, off, rfl, -, -, c0⟩ := (HPT.out.up hb).1.at hlt
        obtain ⟨b', off', rfl, -, -, d0⟩ := (HFT.out.up hb).1.at hlt'
        have i1 : (0 : Int) ≤ (k : Int) := by omega
        have i2 : (k : Int) < (p.args.length : Int) := by omega
        have i3 : (k : Int) < (f.args.length : Int) := by omega
        have hsp := fsz_arg' zp k hlt
        have hsf := fsz_arg' zf k hlt'
        have HQ := Lib.hid (mtL_at cur hlt hlt')
        cases hA : isAtomB p.args[k]
        · cases hE : extV cur p.args[k] f.args[k] with
          | none =>
            have HE : Hid (mtV p f x = none) := by have h := HQ.out; rw [hA, hE] at h; exact HM.out.trans h
            have HS := Lib.hid (ext_none hE)
            clear HQ hE
            have hzc : psz cur ≤ 1048576 := by have := HZ.out; omega
            have HOB := Lib.hid (show Ob (PO 111) wr w.heap.size wr.heap.size _ cur from ⟨HO.out, Nat.le_refl _⟩)
            clear HO
            go_wp2_with fail
            refine (atomS_any _ _ (by unfold maxLen; omega)).mono ?_
            rintro e w' ⟨rfl, rfl⟩
            rw [hA]
            go_wp2_with fail
            go_region_held3 (fun w' => w'.cell? ⟨w.heap.size, 1, none⟩ = some (.slice (some ⟨b, off, none⟩) p.args.length pc) ∧ w'.cell? ⟨w.heap.size + 1, 1, none⟩ = some (.slice (some ⟨b', off', none⟩) f.args.length fc) ∧ w'.cell? ⟨b, off + k, none⟩ = some (.string p.args[k]) ∧ w'.cell? ⟨b', off' + k, none⟩ = some (.string f.args[k]) ∧ Up wr w')
              (first | exact ⟨k1, l1, c0, d0, (Up.rf _).dr⟩ | (have hh := ‹_ ∧ _ ∧ _ ∧ _ ∧ _›; have hb := ‹Up _ _›; exact ⟨keepCell hb hh.1, keepCell hb hh.2.1, keepCell hb hh.2.2.1, keepCell hb hh.2.2.2.1, hh.2.2.2.2.tr hb⟩))
              (first | (go_at_call 107; have hh := ‹_ ∧ _ ∧ _ ∧ _ ∧ _›; have b6 := hh.2.2.2.2; (with_reducible refine (cExtendS ((HOB.out.up hh.2.2.2.2).sp) hzc hsp hsf).mono ?_); clear hh; rintro e w5 ⟨v5, rfl, ho, b5⟩))
            have b7 : Up wr w5 := b6.tr b5
            have ho5 := (show PO 111 w5 w.heap.size w5.heap.size v5 _ from ho.1.mono (Nat.le_trans HB.out.size (Nat.le_trans hb.size b6.size)) (Nat.le_refl _))
            clear b5 b6
            have HO5 := Lib.hid ho5
            have HB5 := Lib.hid (hb.tr b7)
            clear ho ho5 b7 hb HOB k1 l1 c0 d0
            rw [HS.out]
            have HB := Lib.hid (HB.out.tr HB5.out)
            clear HB5
            go_wp2
            go_ret2
            exact ⟨_, ret_pb (by rw [HE.out]; rfl), PO.emp_ HE.out HB.out.size, HB.out.al _⟩
          | some c =>
            have HE : Hid (mtV p f x = mtL (p.args.drop (k + 1)) (f.args.drop (k + 1)) c) := by have h := HQ.out; rw [hA, hE] at h; exact HM.out.trans h
            have HS := Lib.hid (ext_some hE)
            have HZ2 := Lib.hid (extV_psz hE)
            clear HQ hE
            have hzc : psz cur ≤ 1048576 := by have := HZ.out; omega
            have HOB := Lib.hid (show Ob (PO 111) wr w.heap.size wr.heap.size _ cur from ⟨HO.out, Nat.le_refl _⟩)
            clear HO
            go_wp2_with fail
            refine (atomS_any _ _ (by unfold maxLen; omega)).mono ?_
            rintro e w' ⟨rfl, rfl⟩
            rw [hA]
            go_wp2_with fail
            go_region_held3 (fun w' => w'.cell? ⟨w.heap.size, 1, none⟩ = some (.slice (some ⟨b, off, none⟩) p.args.length pc) ∧ w'.cell? ⟨w.heap.size + 1, 1, none⟩ = some (.slice (some ⟨b', off', none⟩) f.args.length fc) ∧ w'.cell? ⟨b, off + k, none⟩ = some (.string p.args[k]) ∧ w'.cell? ⟨b', off' + k, none⟩ = some (.string f.args[k]) ∧ Up wr w')
              (first | exact ⟨k1, l1, c0, d0, (Up.rf _).dr⟩ | (have hh := ‹_ ∧ _ ∧ _ ∧ _ ∧ _›; have hb := ‹Up _ _›; exact ⟨keepCell hb hh.1, keepCell hb hh.2.1, keepCell hb hh.2.2.1, keepCell hb hh.2.2.2.1, hh.2.2.2.2.tr hb⟩))
              (first | (go_at_call 107; have hh := ‹_ ∧ _ ∧ _ ∧ _ ∧ _›; have b6 := hh.2.2.2.2; (with_reducible refine (cExtendS ((HOB.out.up hh.2.2.2.2).sp) hzc hsp hsf).mono ?_); clear hh; rintro e w5 ⟨v5, rfl, ho, b5⟩))
            have b7 : Up wr w5 := b6.tr b5
            have ho5 := (show PO 111 w5 w.heap.size w5.heap.size v5 _ from ho.1.mono (Nat.le_trans HB.out.size (Nat.le_trans hb.size b6.size)) (Nat.le_refl _))
            clear b5 b6
            have HO5 := Lib.hid ho5
            have HB5 := Lib.hid (hb.tr b7)
            clear ho ho5 b7 hb HOB k1 l1 c0 d0
            rw [HS.out.1]
            go_wp2
            exact ⟨⟨k+1, c, by omega, by go_num, HB5.out, by have h := HO5.out; rw [HS.out.2] at h; exact h, HZ2.out, HE.out⟩, by simp [intOf]; omega⟩
        · cases hq : (p.args[k].toList == f.args[k].toList)
          · have HE : Hid (mtV p f x = none) := by have h := HQ.out; rw [hA] at h; rw [if_pos rfl, if_neg (str_eq_f hq)] at h; exact HM.out.trans h
            clear HQ
            go_wp2_with fail
            refine (atomS_any _ _ (by unfold maxLen; omega)).mono ?_
            rintro e w' ⟨rfl, rfl⟩
            rw [hA]
            go_wp2_with fail
            go_quiet (fail)
            go_wp2
            go_ret2
            exact ⟨_, ret_pb (by rw [HE.out]; rfl), PO.emp_ HE.out (HB.out.tr (hb.tr (below_drewN (Up.rf _) _))).size, (HB.out.tr (hb.tr (below_drewN (Up.rf _) _))).al _⟩
          · have HE : Hid (mtV p f x = mtL (p.args.drop (k + 1)) (f.args.drop (k + 1)) cur) := by have h := HQ.out; rw [hA] at h; rw [if_pos rfl, if_pos (str_eq_t hq)] at h; exact HM.out.trans h
            clear HQ
            go_wp2_with fail
            refine (atomS_any _ _ (by unfold maxLen; omega)).mono ?_
            rintro e w' ⟨rfl, rfl⟩
            rw [hA]
            go_wp2_with fail
            go_quiet (fail)
            go_wp2
            exact ⟨⟨k+1, cur, by omega, by go_num, (hb.tr (below_drewN (Up.rf _) _)), HO.out, HZ.out, HE.out⟩, by simp [intOf]; omega⟩
      · have HE : Hid (mtV p f x = some cur) := by have h := HM.out; rwa [mtL_end _ _ _ _ (by omega)] at h
        go_wp2
        go_ret2
        exact ⟨_, ret_pb (by rw [HE.out]; rfl), by rw [HE.out]; exact ⟨HO.out, Nat.le_refl _⟩, HB.out.tr hb⟩
  · have HE := Lib.hid (mtV_5 (p := p) (f := f) (x := x) (by omega))
    have h5b : ((p.args.length : Int) == (f.args.length : Int)) = false := by simpa using h5
    go_enter Try.func56, Try.ntmps56
    go_wp2_with fail
    generalize ((w.alloc (.cells #[.string p.rel, .slice pa p.args.length pc] 30)).alloc (.cells #[.string f.rel, .slice fa f.args.length fc] 79)) = W at *
    refine (cIsPatternS HP.out zp).mono ?_
    rintro e w1 ⟨rfl, b1⟩
    rw [h1]
    have k0 := (KP.out.up b1).cell0; have k1 := (KP.out.up b1).cell1; have l0 := (KF.out.up b1).cell0; have l1 := (KF.out.up b1).cell1
    go_wp2_with fail
    clear k0 k1 l0 l1
    refine (cIsFactS (HF.out.up b1) zf).mono ?_
    rintro e w2 ⟨rfl, b2⟩
    rw [h2]
    have b12 := Up.tr b1 b2
    clear b1 b2
    go_wp2_with fail
    refine (cIsBindingS (HX.out.up b12) zx).mono ?_
    rintro e w3 ⟨rfl, b3⟩
    rw [h3]
    have b13 := Up.tr b12 b3
    have k0 := (KP.out.up b13).cell0; have k1 := (KP.out.up b13).cell1; have l0 := (KF.out.up b13).cell0; have l1 := (KF.out.up b13).cell1
    clear b12 b3
    go_wp2_with fail
    clear k0 k1 l0 l1
    have HB := Lib.hid (HB.out.tr b13)
    clear b13
    go_wp2
    go_ret2
    exact ⟨_, ret_pb (by rw [HE.out]; rfl), PO.emp_ HE.out HB.out.size, HB.out.al _⟩
end Go.Proofs.Ytojgkodffmdnpaa
