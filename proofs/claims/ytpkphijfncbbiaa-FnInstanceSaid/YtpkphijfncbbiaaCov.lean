/- CoversPattern, the program's and the reference's: one plain function of two patterns; wherever the lengths can be counted. -/
import Derived.Deep.DeepCutAuto
import Derived.Test.YtpkphijfncbbiaaOm
import Derived.Test.YtpkphijfncbbiaaPlC
import Derived.Test.YtpkphijfncbbiaaRg
namespace Go.Proofs.Ytpkphijfncbbiaa
open Go.RowKit
attribute [local go_sem ↓] Go.wp_at_zero Go.wp_at_succ
set_option linter.unusedVariables false
set_option linter.unusedSimpArgs false
set_option maxHeartbeats 4000000 in
set_option maxRecDepth 100000 in
theorem cCovers {vp vq : Value} {p q : FactV} {lo hi lo' hi' : Nat} {w : World} (hp : Ob AF w lo hi vp p) (hq : Ob AF w lo' hi' vq q) (zp : fsz p ≤ 1048576) (zq : fsz q ≤ 1048576) :
    Calls Try.prog 10 #[vp, vq] w fun e w' => e = .returned (.bool (coversB p q)) ∧ Up w w' := by
  obtain ⟨pa, pc, rfl⟩ := hp.1.form
  obtain ⟨qa, qc, rfl⟩ := hq.1.form
  have hb0 : Up w ((w.alloc (.cells #[.string p.rel, .slice pa p.args.length pc] 27)).alloc (.cells #[.string q.rel, .slice qa q.args.length qc] 27)) := (Up.al1 _ _).al _
  have hk0 : Blk ((w.alloc (.cells #[.string p.rel, .slice pa p.args.length pc] 27)).alloc (.cells #[.string q.rel, .slice qa q.args.length qc] 27)) w.heap.size 27 #[.string p.rel, .slice pa p.args.length pc] := (Blk.new w 27 #[.string p.rel, .slice pa p.args.length pc]).alloc _
  have hk1 : Blk ((w.alloc (.cells #[.string p.rel, .slice pa p.args.length pc] 27)).alloc (.cells #[.string q.rel, .slice qa q.args.length qc] 27)) (w.heap.size + 1) 27 #[.string q.rel, .slice qa q.args.length qc] := by
    have := Blk.new (w.alloc (.cells #[.string p.rel, .slice pa p.args.length pc] 27)) 27 #[.string q.rel, .slice qa q.args.length qc]
    simpa using this
  have HP := Lib.hid (hp.up hb0)
  have HQ := Lib.hid (hq.up hb0)
  have HPT : Hid (Ob TX ((w.alloc (.cells #[.string p.rel, .slice pa p.args.length pc] 27)).alloc (.cells #[.string q.rel, .slice qa q.args.length qc] 27)) lo hi (.slice pa p.args.length pc) p.args) := AF.tx9 (hp.up hb0)
  have HQT : Hid (Ob TX ((w.alloc (.cells #[.string p.rel, .slice pa p.args.length pc] 27)).alloc (.cells #[.string q.rel, .slice qa q.args.length qc] 27)) lo' hi' (.slice qa q.args.length qc) q.args) := AF.tx9 (hq.up hb0)
  have plen := (AF.tx9 hp).1.len
  have qlen := (AF.tx9 hq).1.len
  have KP := Lib.hid hk0
  have KQ := Lib.hid hk1
  have HB := Lib.hid hb0
  clear hp hq hb0 hk0 hk1
  cases h1 : isPatB p
  · have HE := Lib.hid (cov_1 (q := q) h1)
    go_enter Try.func10, Try.ntmps10
    go_wp2_with fail
    generalize ((w.alloc (.cells #[.string p.rel, .slice pa p.args.length pc] 27)).alloc (.cells #[.string q.rel, .slice qa q.args.length qc] 27)) = W at *
    refine (cIsPattern HP.out zp).mono ?_
    rintro e w1 ⟨rfl, b1⟩
    rw [h1]
    have HB := Lib.hid (HB.out.tr b1)
    clear b1
    go_wp2
    go_ret
    exact ⟨ret_bool HE.out.symm, HB.out⟩
  cases h2 : isPatB q
  · have HE := Lib.hid (cov_2 (p := p) h2)
    go_enter Try.func10, Try.ntmps10
    go_wp2_with fail
    generalize ((w.alloc (.cells #[.string p.rel, .slice pa p.args.length pc] 27)).alloc (.cells #[.string q.rel, .slice qa q.args.length qc] 27)) = W at *
    refine (cIsPattern HP.out zp).mono ?_
    rintro e w1 ⟨rfl, b1⟩
    rw [h1]
    have k0 := (KP.out.up b1).cell0; have k1 := (KP.out.up b1).cell1; have l0 := (KQ.out.up b1).cell0; have l1 := (KQ.out.up b1).cell1
    go_wp2_with fail
    clear k0 k1 l0 l1
    refine (cIsPattern (HQ.out.up b1) zq).mono ?_
    rintro e w2 ⟨rfl, b2⟩
    rw [h2]
    have b12 := Up.tr b1 b2
    clear b1 b2
    have HB := Lib.hid (HB.out.tr b12)
    clear b12
    go_wp2
    go_ret
    exact ⟨ret_bool HE.out.symm, HB.out⟩
  cases h3 : (p.rel.toList == q.rel.toList)
  · have HE := Lib.hid (cov_3 h3)
    go_enter Try.func10, Try.ntmps10
    go_wp2_with fail
    generalize ((w.alloc (.cells #[.string p.rel, .slice pa p.args.length pc] 27)).alloc (.cells #[.string q.rel, .slice qa q.args.length qc] 27)) = W at *
    refine (cIsPattern HP.out zp).mono ?_
    rintro e w1 ⟨rfl, b1⟩
    rw [h1]
    have k0 := (KP.out.up b1).cell0; have k1 := (KP.out.up b1).cell1; have l0 := (KQ.out.up b1).cell0; have l1 := (KQ.out.up b1).cell1
    go_wp2_with fail
    clear k0 k1 l0 l1
    refine (cIsPattern (HQ.out.up b1) zq).mono ?_
    rintro e w2 ⟨rfl, b2⟩
    rw [h2]
    have b12 := Up.tr b1 b2
    clear b1 b2
    have k0 := (KP.out.up b12).cell0; have k1 := (KP.out.up b12).cell1; have l0 := (KQ.out.up b12).cell0; have l1 := (KQ.out.up b12).cell1
    go_wp2_with fail
    clear k0 k1 l0 l1
    have HB := Lib.hid (HB.out.tr b12)
    clear b12
    go_wp2
    go_ret
    exact ⟨ret_bool HE.out.symm, HB.out⟩
  by_cases h4 : (p.args.length : Int) = (q.args.length : Int)
  · have h4n : p.args.length = q.args.length := by omega
    have HL := Lib.hid h4n
    have HT := Lib.hid (cov_t h1 h2 h3 h4n)
    clear h4n
    go_enter Try.func10, Try.ntmps10
    go_wp2_with fail
    generalize ((w.alloc (.cells #[.string p.rel, .slice pa p.args.length pc] 27)).alloc (.cells #[.string q.rel, .slice qa q.args.length qc] 27)) = W at *
    refine (cIsPattern HP.out zp).mono ?_
    rintro e w1 ⟨rfl, b1⟩
    rw [h1]
    have k0 := (KP.out.up b1).cell0; have k1 := (KP.out.up b1).cell1; have l0 := (KQ.out.up b1).cell0; have l1 := (KQ.out.up b1).cell1
    go_wp2_with fail
    clear k0 k1 l0 l1
    refine (cIsPattern (HQ.out.up b1) zq).mono ?_
    rintro e w2 ⟨rfl, b2⟩
    rw [h2]
    have b12 := Up.tr b1 b2
    clear b1 b2
    replace HPT := Lib.hid (HPT.out.up b12); replace HQT := Lib.hid (HQT.out.up b12); replace KP := Lib.hid (KP.out.up b12); replace KQ := Lib.hid (KQ.out.up b12); replace HB := Lib.hid (HB.out.tr b12)
    clear h1 h2 b12 HP HQ
    have k0 := KP.out.cell0; have k1 := KP.out.cell1; have l0 := KQ.out.cell0; have l1 := KQ.out.cell1
    have hmk : (Instr.makeMap 64 none).run Try.prog w2 = .ok (.map (some w2.heap.size)) (w2.alloc (.map #[] 0)) := rfl
    have k9 := (KP.out.up (Up.al1 w2 (.map #[] 0))).cell1
    go_wp2_with fail
    clear hmk k9
    clear k0 k1 l0 l1 h3
    have hm0 : OM Try.prog 9 9 (w2.alloc (.map #[] 0)) w2.heap.size 0 (fun _ => none) := OM.made w2
    have hbm := Up.al1 w2 (.map #[] 0)
    go_loopw [38] (fun i wr => ∃ (k : Nat) (m : ByteArray → Option ByteArray), k ≤ p.args.length ∧ i = .int .i64 k ∧ Up w2 wr ∧ Hid (OM Try.prog 9 9 wr w2.heap.size k m) ∧ Hid (CovTo p.args q.args k) ∧ Hid (MInv p.args q.args k m)) (fun i _ => p.args.length - (intOf i).toNat)
    case atStart => exact ⟨0, _, Nat.zero_le _, rfl, hbm, hm0, covTo_0, minv_0⟩
    case round =>
      clear hm0 hbm
      obtain ⟨k, m, hk, rfl, hb, HM, HC, HI⟩ := hrel
      have k1 := (KP.out.up hb).cell1; have l1 := (KQ.out.up hb).cell1
      by_cases hlt : k < p.args.length
      · have hlt' : k < q.args.length := by have := HL.out; omega
        obtain ⟨b, off, rfl, -, -, c0⟩ := (HPT.out.up hb).1.at hlt
        obtain ⟨b', off', rfl, -, -, d0⟩ := (HQT.out.up hb).1.at hlt'
        have i1 : (0 : Int) ≤ (k : Int) := by omega
        have i2 : (k : Int) < (p.args.length : Int) := by omega
        have i3 : (k : Int) < (q.args.length : Int) := by omega
        have hsp := fsz_arg' zp k hlt
        have hsq := fsz_arg' zq k hlt'
        cases hA : isAtomB p.args[k]
        · have ht := Try.underlying64
          cases hm : m p.args[k] with
          | none =>
            have hlk := HM.out.look Try.underlying9 Try.underlying9 Try.underlying64 rfl (s := p.args[k]) (by unfold maxLen; omega)
            rw [hm] at hlk
            simp only [Option.getD_none, Option.getD_some, Option.isSome_none, Option.isSome_some] at hlk
            obtain ⟨w', hrun, ho', hg⟩ := HM.out.update Try.underlying9 Try.underlying9 Try.underlying64 (by unfold maxLen; omega) (s := p.args[k]) (v := q.args[k]) (by unfold maxLen; omega) (by unfold maxLen; omega)
            have HM' := Lib.hid ho'
            have HB' := Lib.hid (Up.grown hb hg (fun g hg => by cases hg; exact Nat.le_refl _))
            have HC' := Lib.hid (covM_new HC.out HI.out hlt hlt' hA hm)
            have HI' := Lib.hid (minv_put HI.out hlt hlt')
            clear ho' hg HM HC HI
            go_wp2_with fail
            refine (atom_any _ _ (by unfold maxLen; omega)).mono ?_
            rintro e w9 ⟨rfl, rfl⟩
            rw [hA]
            go_wp2
            exact ⟨⟨k+1, _, by omega, by go_num, HB'.out, HM'.out, HC'.out, HI'.out⟩, by simp [intOf]; omega⟩
          | some x =>
            have hlk := HM.out.look Try.underlying9 Try.underlying9 Try.underlying64 rfl (s := p.args[k]) (by unfold maxLen; omega)
            rw [hm] at hlk
            simp only [Option.getD_none, Option.getD_some, Option.isSome_none, Option.isSome_some] at hlk
            cases hq : (x.toList == q.args[k].toList)
            · have HE := Lib.hid (cov_f hlt (covM_bad HI.out hlt hlt' hm hq))
              clear HM HC HI
              go_wp2_with fail
              refine (atom_any _ _ (by unfold maxLen; omega)).mono ?_
              rintro e w9 ⟨rfl, rfl⟩
              rw [hA]
              go_wp2
              go_ret
              exact ⟨ret_bool HE.out.symm, HB.out.tr hb⟩
            · skip
              obtain ⟨w', hrun, ho', hg⟩ := HM.out.update Try.underlying9 Try.underlying9 Try.underlying64 (by unfold maxLen; omega) (s := p.args[k]) (v := q.args[k]) (by unfold maxLen; omega) (by unfold maxLen; omega)
              have HM' := Lib.hid ho'
              have HB' := Lib.hid (Up.grown hb hg (fun g hg => by cases hg; exact Nat.le_refl _))
              have HC' := Lib.hid (covM_ok HC.out HI.out hlt hlt' hA hm hq)
              have HI' := Lib.hid (minv_put HI.out hlt hlt')
              clear ho' hg HM HC HI
              go_wp2_with fail
              refine (atom_any _ _ (by unfold maxLen; omega)).mono ?_
              rintro e w9 ⟨rfl, rfl⟩
              rw [hA]
              go_wp2
              exact ⟨⟨k+1, _, by omega, by go_num, HB'.out, HM'.out, HC'.out, HI'.out⟩, by simp [intOf]; omega⟩
        · cases hq : (p.args[k].toList == q.args[k].toList)
          · have HE := Lib.hid (cov_f hlt (covI_a hlt hlt' hA hq))
            go_wp2_with fail
            refine (atom_any _ _ (by unfold maxLen; omega)).mono ?_
            rintro e w9 ⟨rfl, rfl⟩
            rw [hA]
            go_wp2
            go_ret
            exact ⟨ret_bool HE.out.symm, HB.out.tr hb⟩
          · have HC' := Lib.hid (covM_atom HC.out hlt hlt' HL.out hA hq)
            have HI' := Lib.hid (minv_atom HI.out hlt hA)
            have HM' := Lib.hid (HM.out.mono (Nat.le_succ k))
            go_wp2_with fail
            refine (atom_any _ _ (by unfold maxLen; omega)).mono ?_
            rintro e w9 ⟨rfl, rfl⟩
            rw [hA]
            go_wp2
            exact ⟨⟨k+1, m, by omega, by go_num, hb, HM'.out, HC'.out, HI'.out⟩, by simp [intOf]; omega⟩
      · have HE := Lib.hid (HT.out (covTo_end HC.out (by omega)))
        go_wp2
        go_ret
        exact ⟨ret_bool HE.out.symm, HB.out.tr hb⟩
  · have HE := Lib.hid (cov_4 (p := p) (q := q) (by omega))
    have h4b : ((p.args.length : Int) == (q.args.length : Int)) = false := by simpa using h4
    go_enter Try.func10, Try.ntmps10
    go_wp2_with fail
    generalize ((w.alloc (.cells #[.string p.rel, .slice pa p.args.length pc] 27)).alloc (.cells #[.string q.rel, .slice qa q.args.length qc] 27)) = W at *
    refine (cIsPattern HP.out zp).mono ?_
    rintro e w1 ⟨rfl, b1⟩
    rw [h1]
    have k0 := (KP.out.up b1).cell0; have k1 := (KP.out.up b1).cell1; have l0 := (KQ.out.up b1).cell0; have l1 := (KQ.out.up b1).cell1
    go_wp2_with fail
    clear k0 k1 l0 l1
    refine (cIsPattern (HQ.out.up b1) zq).mono ?_
    rintro e w2 ⟨rfl, b2⟩
    rw [h2]
    have b12 := Up.tr b1 b2
    clear b1 b2
    have k0 := (KP.out.up b12).cell0; have k1 := (KP.out.up b12).cell1; have l0 := (KQ.out.up b12).cell0; have l1 := (KQ.out.up b12).cell1
    go_wp2_with fail
    clear k0 k1 l0 l1
    have HB := Lib.hid (HB.out.tr b12)
    clear b12
    go_wp2
    go_ret
    exact ⟨ret_bool HE.out.symm, HB.out⟩
set_option maxHeartbeats 4000000 in
set_option maxRecDepth 100000 in
theorem cCoversS {vp vq : Value} {p q : FactV} {lo hi lo' hi' : Nat} {w : World} (hp : Ob AF w lo hi vp p) (hq : Ob AF w lo' hi' vq q) (zp : fsz p ≤ 1048576) (zq : fsz q ≤ 1048576) :
    Calls Try.prog 8 #[vp, vq] w fun e w' => e = .returned (.bool (coversB p q)) ∧ Up w w' := by
  obtain ⟨pa, pc, rfl⟩ := hp.1.form
  obtain ⟨qa, qc, rfl⟩ := hq.1.form
  have hb0 : Up w ((w.alloc (.cells #[.string p.rel, .slice pa p.args.length pc] 27)).alloc (.cells #[.string q.rel, .slice qa q.args.length qc] 27)) := (Up.al1 _ _).al _
  have hk0 : Blk ((w.alloc (.cells #[.string p.rel, .slice pa p.args.length pc] 27)).alloc (.cells #[.string q.rel, .slice qa q.args.length qc] 27)) w.heap.size 27 #[.string p.rel, .slice pa p.args.length pc] := (Blk.new w 27 #[.string p.rel, .slice pa p.args.length pc]).alloc _
  have hk1 : Blk ((w.alloc (.cells #[.string p.rel, .slice pa p.args.length pc] 27)).alloc (.cells #[.string q.rel, .slice qa q.args.length qc] 27)) (w.heap.size + 1) 27 #[.string q.rel, .slice qa q.args.length qc] := by
    have := Blk.new (w.alloc (.cells #[.string p.rel, .slice pa p.args.length pc] 27)) 27 #[.string q.rel, .slice qa q.args.length qc]
    simpa using this
  have HP := Lib.hid (hp.up hb0)
  have HQ := Lib.hid (hq.up hb0)
  have HPT : Hid (Ob TX ((w.alloc (.cells #[.string p.rel, .slice pa p.args.length pc] 27)).alloc (.cells #[.string q.rel, .slice qa q.args.length qc] 27)) lo hi (.slice pa p.args.length pc) p.args) := AF.tx9 (hp.up hb0)
  have HQT : Hid (Ob TX ((w.alloc (.cells #[.string p.rel, .slice pa p.args.length pc] 27)).alloc (.cells #[.string q.rel, .slice qa q.args.length qc] 27)) lo' hi' (.slice qa q.args.length qc) q.args) := AF.tx9 (hq.up hb0)
  have plen := (AF.tx9 hp).1.len
  have qlen := (AF.tx9 hq).1.len
  have KP := Lib.hid hk0
  have KQ := Lib.hid hk1
  have HB := Lib.hid hb0
  clear hp hq hb0 hk0 hk1
  cases h1 : isPatB p
  · have HE := Lib.hid (cov_1 (q := q) h1)
    go_enter Try.func8, Try.ntmps8
    go_wp2_with fail
    generalize ((w.alloc (.cells #[.string p.rel, .slice pa p.args.length pc] 27)).alloc (.cells #[.string q.rel, .slice qa q.args.length qc] 27)) = W at *
    refine (cIsPatternS HP.out zp).mono ?_
    rintro e w1 ⟨rfl, b1⟩
    rw [h1]
    have HB := Lib.hid (HB.out.tr b1)
    clear b1
    go_wp2
    go_ret
    exact ⟨ret_bool HE.out.symm, HB.out⟩
  cases h2 : isPatB q
  · have HE := Lib.hid (cov_2 (p := p) h2)
    go_enter Try.func8, Try.ntmps8
    go_wp2_with fail
    generalize ((w.alloc (.cells #[.string p.rel, .slice pa p.args.length pc] 27)).alloc (.cells #[.string q.rel, .slice qa q.args.length qc] 27)) = W at *
    refine (cIsPatternS HP.out zp).mono ?_
    rintro e w1 ⟨rfl, b1⟩
    rw [h1]
    have k0 := (KP.out.up b1).cell0; have k1 := (KP.out.up b1).cell1; have l0 := (KQ.out.up b1).cell0; have l1 := (KQ.out.up b1).cell1
    go_wp2_with fail
    clear k0 k1 l0 l1
    refine (cIsPatternS (HQ.out.up b1) zq).mono ?_
    rintro e w2 ⟨rfl, b2⟩
    rw [h2]
    have b12 := Up.tr b1 b2
    clear b1 b2
    have HB := Lib.hid (HB.out.tr b12)
    clear b12
    go_wp2
    go_ret
    exact ⟨ret_bool HE.out.symm, HB.out⟩
  cases h3 : (p.rel.toList == q.rel.toList)
  · have HE := Lib.hid (cov_3 h3)
    go_enter Try.func8, Try.ntmps8
    go_wp2_with fail
    generalize ((w.alloc (.cells #[.string p.rel, .slice pa p.args.length pc] 27)).alloc (.cells #[.string q.rel, .slice qa q.args.length qc] 27)) = W at *
    refine (cIsPatternS HP.out zp).mono ?_
    rintro e w1 ⟨rfl, b1⟩
    rw [h1]
    have k0 := (KP.out.up b1).cell0; have k1 := (KP.out.up b1).cell1; have l0 := (KQ.out.up b1).cell0; have l1 := (KQ.out.up b1).cell1
    go_wp2_with fail
    clear k0 k1 l0 l1
    refine (cIsPatternS (HQ.out.up b1) zq).mono ?_
    rintro e w2 ⟨rfl, b2⟩
    rw [h2]
    have b12 := Up.tr b1 b2
    clear b1 b2
    have k0 := (KP.out.up b12).cell0; have k1 := (KP.out.up b12).cell1; have l0 := (KQ.out.up b12).cell0; have l1 := (KQ.out.up b12).cell1
    go_wp2_with fail
    clear k0 k1 l0 l1
    have HB := Lib.hid (HB.out.tr b12)
    clear b12
    go_wp2
    go_ret
    exact ⟨ret_bool HE.out.symm, HB.out⟩
  by_cases h4 : (p.args.length : Int) = (q.args.length : Int)
  · have h4n : p.args.length = q.args.length := by omega
    have HL := Lib.hid h4n
    have HT := Lib.hid (cov_t h1 h2 h3 h4n)
    clear h4n
    go_enter Try.func8, Try.ntmps8
    go_wp2_with fail
    generalize ((w.alloc (.cells #[.string p.rel, .slice pa p.args.length pc] 27)).alloc (.cells #[.string q.rel, .slice qa q.args.length qc] 27)) = W at *
    refine (cIsPatternS HP.out zp).mono ?_
    rintro e w1 ⟨rfl, b1⟩
    rw [h1]
    have k0 := (KP.out.up b1).cell0; have k1 := (KP.out.up b1).cell1; have l0 := (KQ.out.up b1).cell0; have l1 := (KQ.out.up b1).cell1
    go_wp2_with fail
    clear k0 k1 l0 l1
    refine (cIsPatternS (HQ.out.up b1) zq).mono ?_
    rintro e w2 ⟨rfl, b2⟩
    rw [h2]
    have b12 := Up.tr b1 b2
    clear b1 b2
    replace HPT := Lib.hid (HPT.out.up b12); replace HQT := Lib.hid (HQT.out.up b12); replace KP := Lib.hid (KP.out.up b12); replace KQ := Lib.hid (KQ.out.up b12); replace HB := Lib.hid (HB.out.tr b12)
    clear h1 h2 b12 HP HQ
    have k0 := KP.out.cell0; have k1 := KP.out.cell1; have l0 := KQ.out.cell0; have l1 := KQ.out.cell1
    go_wp2_with fail
    clear k0 k1 l0 l1 h3
    go_loopw [5] (fun i wr => ∃ (k : Nat), k ≤ p.args.length ∧ i = .int .i64 k ∧ Up w2 wr ∧ Hid (CovTo p.args q.args k)) (fun i _ => p.args.length - (intOf i).toNat)
    case atStart => exact ⟨0, Nat.zero_le _, rfl, Up.rf _, covTo_0⟩
    case round =>
      obtain ⟨k, hk, rfl, hb, HC⟩ := hrel
      have k1 := (KP.out.up hb).cell1; have l1 := (KQ.out.up hb).cell1
      by_cases hlt : k < p.args.length
      · have hlt' : k < q.args.length := by have := HL.out; omega
        obtain ⟨b, off, rfl, -, -, c0⟩ := (HPT.out.up hb).1.at hlt
        obtain ⟨b', off', rfl, -, -, d0⟩ := (HQT.out.up hb).1.at hlt'
        have i1 : (0 : Int) ≤ (k : Int) := by omega
        have i2 : (k : Int) < (p.args.length : Int) := by omega
        have i3 : (k : Int) < (q.args.length : Int) := by omega
        have hsp := fsz_arg' zp k hlt
        have hsq := fsz_arg' zq k hlt'
        cases hA : isAtomB p.args[k]
        · have hci := covIn_0 hlt hlt' (.inl hA)
          go_upto_region 6 with fail
          refine wp_region_held_drew (S := (fun w' => w'.cell? ⟨w.heap.size, 1, none⟩ = some (.slice (some ⟨b, off, none⟩) p.args.length pc) ∧ w'.cell? ⟨w.heap.size + 1, 1, none⟩ = some (.slice (some ⟨b', off', none⟩) q.args.length qc) ∧ w'.cell? ⟨b, off + k, none⟩ = some (.string p.args[k]) ∧ w'.cell? ⟨b', off' + k, none⟩ = some (.string q.args[k]) ∧ Up wr w')) (by kernel_rfl) (by (try dsimp only); exact ⟨k1, l1, c0, d0, (Up.rf _).dr⟩) (fun hHeld => ?_)
          refine takeW (i := 0) (v := ?_) rfl (by kernel_rfl) (by kernel_rfl) (by kernel_rfl) (fun _ _ _ h => h) (by rfl) (by assumption) ?_ ?_
          rotate_left
          · (intro w9 hSw; (try dsimp only at hSw); go_simp; (try with_reducible rfl))
          simp only [Act.put, List.setIfInBounds_toArray, List.set_cons_zero, List.set_cons_succ]
          refine takeW (i := 1) (v := ?_) rfl (by kernel_rfl) (by kernel_rfl) (by kernel_rfl) (fun _ _ _ h => h) (by rfl) (by assumption) ?_ ?_
          rotate_left
          · (intro w9 hSw; (try dsimp only at hSw); go_simp; (try with_reducible rfl))
          simp only [Act.put, List.setIfInBounds_toArray, List.set_cons_zero, List.set_cons_succ]
          refine takeW (i := 2) (v := ?_) rfl (by kernel_rfl) (by kernel_rfl) (by kernel_rfl) (fun _ _ _ h => h) (by rfl) (by assumption) ?_ ?_
          rotate_left
          · (intro w9 hSw; (try dsimp only at hSw); go_simp; (try with_reducible rfl))
          simp only [Act.put, List.setIfInBounds_toArray, List.set_cons_zero, List.set_cons_succ]
          refine takeW (i := 3) (v := ?_) rfl (by kernel_rfl) (by kernel_rfl) (by kernel_rfl) (fun _ _ _ h => h) (by rfl) (by assumption) ?_ ?_
          rotate_left
          · (intro w9 hSw; (try dsimp only at hSw); go_simp; (try with_reducible rfl))
          simp only [Act.put, List.setIfInBounds_toArray, List.set_cons_zero, List.set_cons_succ]
          refine takeW (i := 4) (v := ?_) rfl (by kernel_rfl) (by kernel_rfl) (by kernel_rfl) (fun _ _ _ h => h) (by rfl) (by assumption) ?_ ?_
          rotate_left
          · (intro w9 hSw; (try dsimp only at hSw); go_simp; (try with_reducible rfl))
          simp only [Act.put, List.setIfInBounds_toArray, List.set_cons_zero, List.set_cons_succ]
          refine comeC (i := 5) rfl (by kernel_rfl) (by rfl) (fun K hK => ?_)
          go_simp
          go_at_call 35; refine (atomS_any _ _ (by unfold maxLen; omega)).mono ?_; rintro e w9 ⟨rfl, rfl⟩; rw [hA]
          go_wp2_with fail
          refine hK.out _ _ (by (try dsimp only); exact hHeld) (fun hHeld => ?_)
          clear hK K
          try simp only [Act.put, List.setIfInBounds_toArray, List.set_cons_zero, List.set_cons_succ]
          refine takeW (i := 6) (v := ?_) rfl (by kernel_rfl) (by kernel_rfl) (by kernel_rfl) (fun _ _ _ h => h) (by rfl) (by assumption) ?_ ?_
          rotate_left
          · (intro w9 hSw; (try dsimp only at hSw); go_simp; (try with_reducible rfl))
          simp only [Act.put, List.setIfInBounds_toArray, List.set_cons_zero, List.set_cons_succ]
          refine takeU (i := 7) rfl (by kernel_rfl) (by kernel_rfl) (by kernel_rfl) (fun _ _ _ h => h) rfl rfl rfl rfl rfl (by first | rfl | (rw [hd]; rfl) | (rw [hdN]; rfl)) (by assumption) ?_
          simp only [Act.put, List.setIfInBounds_toArray, List.set_cons_zero, List.set_cons_succ]
          refine takeU (i := 8) rfl (by kernel_rfl) (by kernel_rfl) (by kernel_rfl) (fun _ _ _ h => h) rfl rfl rfl rfl rfl (by first | rfl | (rw [hd]; rfl) | (rw [hdN]; rfl)) (by assumption) ?_
          simp only [Act.put, List.setIfInBounds_toArray, List.set_cons_zero, List.set_cons_succ]
          refine takeU (i := 9) rfl (by kernel_rfl) (by kernel_rfl) (by kernel_rfl) (fun _ _ _ h => h) rfl rfl rfl rfl rfl (by first | rfl | (rw [hd]; rfl) | (rw [hdN]; rfl)) (by assumption) ?_
          simp only [Act.put, List.setIfInBounds_toArray, List.set_cons_zero, List.set_cons_succ]
          refine takeU (i := 10) rfl (by kernel_rfl) (by kernel_rfl) (by kernel_rfl) (fun _ _ _ h => h) rfl rfl rfl rfl rfl (by first | rfl | (rw [hd]; rfl) | (rw [hdN]; rfl)) (by assumption) ?_
          simp only [Act.put, List.setIfInBounds_toArray, List.set_cons_zero, List.set_cons_succ]
          refine takeU (i := 11) rfl (by kernel_rfl) (by kernel_rfl) (by kernel_rfl) (fun _ _ _ h => h) rfl rfl rfl rfl rfl (by first | rfl | (rw [hd]; rfl) | (rw [hdN]; rfl)) (by assumption) ?_
          simp only [Act.put, List.setIfInBounds_toArray, List.set_cons_zero, List.set_cons_succ]
          refine takeU (i := 12) rfl (by kernel_rfl) (by kernel_rfl) (by kernel_rfl) (fun _ _ _ h => h) rfl rfl rfl rfl rfl (by first | rfl | (rw [hd]; rfl) | (rw [hdN]; rfl)) (by assumption) ?_
          simp only [Act.put, List.setIfInBounds_toArray, List.set_cons_zero, List.set_cons_succ]
          refine takeU (i := 13) rfl (by kernel_rfl) (by kernel_rfl) (by kernel_rfl) (fun _ _ _ h => h) rfl rfl rfl rfl rfl (by first | rfl | (rw [hd]; rfl) | (rw [hdN]; rfl)) (by assumption) ?_
          simp only [Act.put, List.setIfInBounds_toArray, List.set_cons_zero, List.set_cons_succ]
          refine takeU (i := 14) rfl (by kernel_rfl) (by kernel_rfl) (by kernel_rfl) (fun _ _ _ h => h) rfl rfl rfl rfl rfl (by first | rfl | (rw [hd]; rfl) | (rw [hdN]; rfl)) (by assumption) ?_
          simp only [Act.put, List.setIfInBounds_toArray, List.set_cons_zero, List.set_cons_succ]
          refine takeU (i := 15) rfl (by kernel_rfl) (by kernel_rfl) (by kernel_rfl) (fun _ _ _ h => h) rfl rfl rfl rfl rfl (by first | rfl | (rw [hd]; rfl) | (rw [hdN]; rfl)) (by assumption) ?_
          simp only [Act.put, List.setIfInBounds_toArray, List.set_cons_zero, List.set_cons_succ]
          refine takeU (i := 16) rfl (by kernel_rfl) (by kernel_rfl) (by kernel_rfl) (fun _ _ _ h => h) rfl rfl rfl rfl rfl (by first | rfl | (rw [hd]; rfl) | (rw [hdN]; rfl)) (by assumption) ?_
          simp only [Act.put, List.setIfInBounds_toArray, List.set_cons_zero, List.set_cons_succ]
          refine takeU (i := 17) rfl (by kernel_rfl) (by kernel_rfl) (by kernel_rfl) (fun _ _ _ h => h) rfl rfl rfl rfl rfl (by first | rfl | (rw [hd]; rfl) | (rw [hdN]; rfl)) (by assumption) ?_
          simp only [Act.put, List.setIfInBounds_toArray, List.set_cons_zero, List.set_cons_succ]
          refine takeW (i := 18) (v := ?_) rfl (by kernel_rfl) (by kernel_rfl) (by kernel_rfl) (fun _ _ _ h => h) (by rfl) (by assumption) ?_ ?_
          rotate_left
          · (intro w9 hSw; (try dsimp only at hSw); go_simp; (try with_reducible rfl))
          simp only [Act.put, List.setIfInBounds_toArray, List.set_cons_zero, List.set_cons_succ]
          refine wpAnyH_done (by kernel_rfl) ?_ _
          have HU := Lib.hid (show Up wr _ from (Up.rf wr).dr)
          have HCI := Lib.hid hci
          clear hci hHeld
          go_wp2_with fail
          go_loopw [6] (fun j wi => ∃ (o : Nat), o ≤ k ∧ j = .int .i64 o ∧ Up wr wi ∧ Hid (CovIn p.args q.args k o)) (fun j _ => k - (intOf j).toNat)
          case atStart => exact ⟨0, Nat.zero_le _, rfl, HU.out, HCI.out⟩
          case round =>
            clear k1 l1 c0 d0
            obtain ⟨o, ho, rfl, hb2, HCO⟩ := hrel
            have hb3 := hb.tr hb2
            have k1 := (KP.out.up hb3).cell1; have l1 := (KQ.out.up hb3).cell1
            by_cases hlo : o < k
            · have hlp : o < p.args.length := by omega
              have hlq : o < q.args.length := by omega
              obtain ⟨_, _, e9, -, -, c0⟩ := (HPT.out.up hb3).1.at hlt; injection e9 with e9; injection e9 with e9a e9b; subst e9a e9b
              obtain ⟨_, _, e9, -, -, d0⟩ := (HQT.out.up hb3).1.at hlt'; injection e9 with e9; injection e9 with e9a e9b; subst e9a e9b
              obtain ⟨_, _, e9, -, -, c1⟩ := (HPT.out.up hb3).1.at hlp; injection e9 with e9; injection e9 with e9a e9b; subst e9a e9b
              obtain ⟨_, _, e9, -, -, d1⟩ := (HQT.out.up hb3).1.at hlq; injection e9 with e9; injection e9 with e9a e9b; subst e9a e9b
              have j1 : (0 : Int) ≤ (o : Int) := by omega
              have j2 : (o : Int) < (p.args.length : Int) := by omega
              have j3 : (o : Int) < (q.args.length : Int) := by omega
              have hlo9 : (o : Int) < (k : Int) := by omega
              cases hq1 : (p.args[k].toList == p.args[o].toList)
              · have HE := Lib.hid (covIn_succ HCO.out hlt hlt' hlo (.inl hq1))
                go_upto_region 11 with fail
                refine wp_region_held_drew (S := (fun w' => w'.cell? ⟨w.heap.size, 1, none⟩ = some (.slice (some ⟨b, off, none⟩) p.args.length pc) ∧ w'.cell? ⟨w.heap.size + 1, 1, none⟩ = some (.slice (some ⟨b', off', none⟩) q.args.length qc) ∧ w'.cell? ⟨b, off + k, none⟩ = some (.string p.args[k]) ∧ w'.cell? ⟨b', off' + k, none⟩ = some (.string q.args[k]) ∧ w'.cell? ⟨b, off + o, none⟩ = some (.string p.args[o]) ∧ w'.cell? ⟨b', off' + o, none⟩ = some (.string q.args[o]) ∧ Up wr w')) (by kernel_rfl) (by (try dsimp only); exact ⟨k1, l1, c0, d0, c1, d1, (Up.rf _).dr⟩) (fun hHeld => ?_)
                refine takeW (i := 0) (v := ?_) rfl (by kernel_rfl) (by kernel_rfl) (by kernel_rfl) (fun _ _ _ h => h) (by rfl) (by assumption) ?_ ?_
                rotate_left
                · (intro w9 hSw; (try dsimp only at hSw); go_simp; (try with_reducible rfl))
                simp only [Act.put, List.setIfInBounds_toArray, List.set_cons_zero, List.set_cons_succ]
                refine takeW (i := 1) (v := ?_) rfl (by kernel_rfl) (by kernel_rfl) (by kernel_rfl) (fun _ _ _ h => h) (by rfl) (by assumption) ?_ ?_
                rotate_left
                · (intro w9 hSw; (try dsimp only at hSw); go_simp; (try with_reducible rfl))
                simp only [Act.put, List.setIfInBounds_toArray, List.set_cons_zero, List.set_cons_succ]
                refine takeW (i := 2) (v := ?_) rfl (by kernel_rfl) (by kernel_rfl) (by kernel_rfl) (fun _ _ _ h => h) (by rfl) (by assumption) ?_ ?_
                rotate_left
                · (intro w9 hSw; (try dsimp only at hSw); go_simp; (try with_reducible rfl))
                simp only [Act.put, List.setIfInBounds_toArray, List.set_cons_zero, List.set_cons_succ]
                refine takeW (i := 3) (v := ?_) rfl (by kernel_rfl) (by kernel_rfl) (by kernel_rfl) (fun _ _ _ h => h) (by rfl) (by assumption) ?_ ?_
                rotate_left
                · (intro w9 hSw; (try dsimp only at hSw); go_simp; (try with_reducible rfl))
                simp only [Act.put, List.setIfInBounds_toArray, List.set_cons_zero, List.set_cons_succ]
                refine takeW (i := 4) (v := ?_) rfl (by kernel_rfl) (by kernel_rfl) (by kernel_rfl) (fun _ _ _ h => h) (by rfl) (by assumption) ?_ ?_
                rotate_left
                · (intro w9 hSw; (try dsimp only at hSw); go_simp; (try with_reducible rfl))
                simp only [Act.put, List.setIfInBounds_toArray, List.set_cons_zero, List.set_cons_succ]
                refine takeW (i := 5) (v := ?_) rfl (by kernel_rfl) (by kernel_rfl) (by kernel_rfl) (fun _ _ _ h => h) (by rfl) (by assumption) ?_ ?_
                rotate_left
                · (intro w9 hSw; (try dsimp only at hSw); go_simp; (try with_reducible rfl))
                simp only [Act.put, List.setIfInBounds_toArray, List.set_cons_zero, List.set_cons_succ]
                refine takeW (i := 6) (v := ?_) rfl (by kernel_rfl) (by kernel_rfl) (by kernel_rfl) (fun _ _ _ h => h) (by rfl) (by assumption) ?_ ?_
                rotate_left
                · (intro w9 hSw; (try dsimp only at hSw); go_simp; (try with_reducible rfl))
                simp only [Act.put, List.setIfInBounds_toArray, List.set_cons_zero, List.set_cons_succ]
                refine takeW (i := 7) (v := ?_) rfl (by kernel_rfl) (by kernel_rfl) (by kernel_rfl) (fun _ _ _ h => h) (by rfl) (by assumption) ?_ ?_
                rotate_left
                · (intro w9 hSw; (try dsimp only at hSw); go_simp; (try with_reducible rfl))
                simp only [Act.put, List.setIfInBounds_toArray, List.set_cons_zero, List.set_cons_succ]
                refine takeW (i := 8) (v := ?_) rfl (by kernel_rfl) (by kernel_rfl) (by kernel_rfl) (fun _ _ _ h => h) (by rfl) (by assumption) ?_ ?_
                rotate_left
                · (intro w9 hSw; (try dsimp only at hSw); go_simp; (try with_reducible rfl))
                simp only [Act.put, List.setIfInBounds_toArray, List.set_cons_zero, List.set_cons_succ]
                refine takeW (i := 9) (v := ?_) rfl (by kernel_rfl) (by kernel_rfl) (by kernel_rfl) (fun _ _ _ h => h) (by rfl) (by assumption) ?_ ?_
                rotate_left
                · (intro w9 hSw; (try dsimp only at hSw); go_simp; (try with_reducible rfl))
                simp only [Act.put, List.setIfInBounds_toArray, List.set_cons_zero, List.set_cons_succ]
                refine takeW (i := 10) (v := ?_) rfl (by kernel_rfl) (by kernel_rfl) (by kernel_rfl) (fun _ _ _ h => h) (by rfl) (by assumption) ?_ ?_
                rotate_left
                · (intro w9 hSw; (try dsimp only at hSw); go_simp; (try with_reducible rfl))
                simp only [Act.put, List.setIfInBounds_toArray, List.set_cons_zero, List.set_cons_succ]
                refine takeW (i := 11) (v := ?_) rfl (by kernel_rfl) (by kernel_rfl) (by kernel_rfl) (fun _ _ _ h => h) (by rfl) (by assumption) ?_ ?_
                rotate_left
                · (intro w9 hSw; (try dsimp only at hSw); go_simp; (try with_reducible rfl))
                simp only [Act.put, List.setIfInBounds_toArray, List.set_cons_zero, List.set_cons_succ]
                refine takeU (i := 12) rfl (by kernel_rfl) (by kernel_rfl) (by kernel_rfl) (fun _ _ _ h => h) rfl rfl rfl rfl rfl (by first | rfl | (rw [hd]; rfl) | (rw [hdN]; rfl)) (by assumption) ?_
                simp only [Act.put, List.setIfInBounds_toArray, List.set_cons_zero, List.set_cons_succ]
                refine takeU (i := 13) rfl (by kernel_rfl) (by kernel_rfl) (by kernel_rfl) (fun _ _ _ h => h) rfl rfl rfl rfl rfl (by first | rfl | (rw [hd]; rfl) | (rw [hdN]; rfl)) (by assumption) ?_
                simp only [Act.put, List.setIfInBounds_toArray, List.set_cons_zero, List.set_cons_succ]
                refine takeU (i := 14) rfl (by kernel_rfl) (by kernel_rfl) (by kernel_rfl) (fun _ _ _ h => h) rfl rfl rfl rfl rfl (by first | rfl | (rw [hd]; rfl) | (rw [hdN]; rfl)) (by assumption) ?_
                simp only [Act.put, List.setIfInBounds_toArray, List.set_cons_zero, List.set_cons_succ]
                refine takeU (i := 15) rfl (by kernel_rfl) (by kernel_rfl) (by kernel_rfl) (fun _ _ _ h => h) rfl rfl rfl rfl rfl (by first | rfl | (rw [hd]; rfl) | (rw [hdN]; rfl)) (by assumption) ?_
                simp only [Act.put, List.setIfInBounds_toArray, List.set_cons_zero, List.set_cons_succ]
                refine takeU (i := 16) rfl (by kernel_rfl) (by kernel_rfl) (by kernel_rfl) (fun _ _ _ h => h) rfl rfl rfl rfl rfl (by first | rfl | (rw [hd]; rfl) | (rw [hdN]; rfl)) (by assumption) ?_
                simp only [Act.put, List.setIfInBounds_toArray, List.set_cons_zero, List.set_cons_succ]
                refine takeU (i := 17) rfl (by kernel_rfl) (by kernel_rfl) (by kernel_rfl) (fun _ _ _ h => h) rfl rfl rfl rfl rfl (by first | rfl | (rw [hd]; rfl) | (rw [hdN]; rfl)) (by assumption) ?_
                simp only [Act.put, List.setIfInBounds_toArray, List.set_cons_zero, List.set_cons_succ]
                refine takeU (i := 18) rfl (by kernel_rfl) (by kernel_rfl) (by kernel_rfl) (fun _ _ _ h => h) rfl rfl rfl rfl rfl (by first | rfl | (rw [hd]; rfl) | (rw [hdN]; rfl)) (by assumption) ?_
                simp only [Act.put, List.setIfInBounds_toArray, List.set_cons_zero, List.set_cons_succ]
                refine takeU (i := 19) rfl (by kernel_rfl) (by kernel_rfl) (by kernel_rfl) (fun _ _ _ h => h) rfl rfl rfl rfl rfl (by first | rfl | (rw [hd]; rfl) | (rw [hdN]; rfl)) (by assumption) ?_
                simp only [Act.put, List.setIfInBounds_toArray, List.set_cons_zero, List.set_cons_succ]
                refine takeU (i := 20) rfl (by kernel_rfl) (by kernel_rfl) (by kernel_rfl) (fun _ _ _ h => h) rfl rfl rfl rfl rfl (by first | rfl | (rw [hd]; rfl) | (rw [hdN]; rfl)) (by assumption) ?_
                simp only [Act.put, List.setIfInBounds_toArray, List.set_cons_zero, List.set_cons_succ]
                refine takeU (i := 21) rfl (by kernel_rfl) (by kernel_rfl) (by kernel_rfl) (fun _ _ _ h => h) rfl rfl rfl rfl rfl (by first | rfl | (rw [hd]; rfl) | (rw [hdN]; rfl)) (by assumption) ?_
                simp only [Act.put, List.setIfInBounds_toArray, List.set_cons_zero, List.set_cons_succ]
                refine takeU (i := 22) rfl (by kernel_rfl) (by kernel_rfl) (by kernel_rfl) (fun _ _ _ h => h) rfl rfl rfl rfl rfl (by first | rfl | (rw [hd]; rfl) | (rw [hdN]; rfl)) (by assumption) ?_
                simp only [Act.put, List.setIfInBounds_toArray, List.set_cons_zero, List.set_cons_succ]
                refine takeW (i := 23) (v := ?_) rfl (by kernel_rfl) (by kernel_rfl) (by kernel_rfl) (fun _ _ _ h => h) (by rfl) (by assumption) ?_ ?_
                rotate_left
                · (intro w9 hSw; (try dsimp only at hSw); go_simp; (try with_reducible rfl))
                simp only [Act.put, List.setIfInBounds_toArray, List.set_cons_zero, List.set_cons_succ]
                refine wpAnyH_done (by kernel_rfl) ?_ _
                go_wp2
                exact ⟨⟨o+1, by omega, by go_num, hb2.dr, HE.out⟩, by simp [intOf]; omega⟩
              · cases hq2 : (q.args[k].toList == q.args[o].toList)
                · have HE := Lib.hid (cov_f hlt (covI_k hlt hlt' hlo hq1 hq2))
                  go_upto_region 11 with fail
                  refine wp_region_held_drew (S := (fun w' => w'.cell? ⟨w.heap.size, 1, none⟩ = some (.slice (some ⟨b, off, none⟩) p.args.length pc) ∧ w'.cell? ⟨w.heap.size + 1, 1, none⟩ = some (.slice (some ⟨b', off', none⟩) q.args.length qc) ∧ w'.cell? ⟨b, off + k, none⟩ = some (.string p.args[k]) ∧ w'.cell? ⟨b', off' + k, none⟩ = some (.string q.args[k]) ∧ w'.cell? ⟨b, off + o, none⟩ = some (.string p.args[o]) ∧ w'.cell? ⟨b', off' + o, none⟩ = some (.string q.args[o]) ∧ Up wr w')) (by kernel_rfl) (by (try dsimp only); exact ⟨k1, l1, c0, d0, c1, d1, (Up.rf _).dr⟩) (fun hHeld => ?_)
                  refine takeW (i := 0) (v := ?_) rfl (by kernel_rfl) (by kernel_rfl) (by kernel_rfl) (fun _ _ _ h => h) (by rfl) (by assumption) ?_ ?_
                  rotate_left
                  · (intro w9 hSw; (try dsimp only at hSw); go_simp; (try with_reducible rfl))
                  simp only [Act.put, List.setIfInBounds_toArray, List.set_cons_zero, List.set_cons_succ]
                  refine takeW (i := 1) (v := ?_) rfl (by kernel_rfl) (by kernel_rfl) (by kernel_rfl) (fun _ _ _ h => h) (by rfl) (by assumption) ?_ ?_
                  rotate_left
                  · (intro w9 hSw; (try dsimp only at hSw); go_simp; (try with_reducible rfl))
                  simp only [Act.put, List.setIfInBounds_toArray, List.set_cons_zero, List.set_cons_succ]
                  refine takeW (i := 2) (v := ?_) rfl (by kernel_rfl) (by kernel_rfl) (by kernel_rfl) (fun _ _ _ h => h) (by rfl) (by assumption) ?_ ?_
                  rotate_left
                  · (intro w9 hSw; (try dsimp only at hSw); go_simp; (try with_reducible rfl))
                  simp only [Act.put, List.setIfInBounds_toArray, List.set_cons_zero, List.set_cons_succ]
                  refine takeW (i := 3) (v := ?_) rfl (by kernel_rfl) (by kernel_rfl) (by kernel_rfl) (fun _ _ _ h => h) (by rfl) (by assumption) ?_ ?_
                  rotate_left
                  · (intro w9 hSw; (try dsimp only at hSw); go_simp; (try with_reducible rfl))
                  simp only [Act.put, List.setIfInBounds_toArray, List.set_cons_zero, List.set_cons_succ]
                  refine takeW (i := 4) (v := ?_) rfl (by kernel_rfl) (by kernel_rfl) (by kernel_rfl) (fun _ _ _ h => h) (by rfl) (by assumption) ?_ ?_
                  rotate_left
                  · (intro w9 hSw; (try dsimp only at hSw); go_simp; (try with_reducible rfl))
                  simp only [Act.put, List.setIfInBounds_toArray, List.set_cons_zero, List.set_cons_succ]
                  refine takeW (i := 5) (v := ?_) rfl (by kernel_rfl) (by kernel_rfl) (by kernel_rfl) (fun _ _ _ h => h) (by rfl) (by assumption) ?_ ?_
                  rotate_left
                  · (intro w9 hSw; (try dsimp only at hSw); go_simp; (try with_reducible rfl))
                  simp only [Act.put, List.setIfInBounds_toArray, List.set_cons_zero, List.set_cons_succ]
                  refine takeW (i := 6) (v := ?_) rfl (by kernel_rfl) (by kernel_rfl) (by kernel_rfl) (fun _ _ _ h => h) (by rfl) (by assumption) ?_ ?_
                  rotate_left
                  · (intro w9 hSw; (try dsimp only at hSw); go_simp; (try with_reducible rfl))
                  simp only [Act.put, List.setIfInBounds_toArray, List.set_cons_zero, List.set_cons_succ]
                  refine takeW (i := 7) (v := ?_) rfl (by kernel_rfl) (by kernel_rfl) (by kernel_rfl) (fun _ _ _ h => h) (by rfl) (by assumption) ?_ ?_
                  rotate_left
                  · (intro w9 hSw; (try dsimp only at hSw); go_simp; (try with_reducible rfl))
                  simp only [Act.put, List.setIfInBounds_toArray, List.set_cons_zero, List.set_cons_succ]
                  refine takeW (i := 8) (v := ?_) rfl (by kernel_rfl) (by kernel_rfl) (by kernel_rfl) (fun _ _ _ h => h) (by rfl) (by assumption) ?_ ?_
                  rotate_left
                  · (intro w9 hSw; (try dsimp only at hSw); go_simp; (try with_reducible rfl))
                  simp only [Act.put, List.setIfInBounds_toArray, List.set_cons_zero, List.set_cons_succ]
                  refine takeW (i := 9) (v := ?_) rfl (by kernel_rfl) (by kernel_rfl) (by kernel_rfl) (fun _ _ _ h => h) (by rfl) (by assumption) ?_ ?_
                  rotate_left
                  · (intro w9 hSw; (try dsimp only at hSw); go_simp; (try with_reducible rfl))
                  simp only [Act.put, List.setIfInBounds_toArray, List.set_cons_zero, List.set_cons_succ]
                  refine takeW (i := 10) (v := ?_) rfl (by kernel_rfl) (by kernel_rfl) (by kernel_rfl) (fun _ _ _ h => h) (by rfl) (by assumption) ?_ ?_
                  rotate_left
                  · (intro w9 hSw; (try dsimp only at hSw); go_simp; (try with_reducible rfl))
                  simp only [Act.put, List.setIfInBounds_toArray, List.set_cons_zero, List.set_cons_succ]
                  refine takeW (i := 11) (v := ?_) rfl (by kernel_rfl) (by kernel_rfl) (by kernel_rfl) (fun _ _ _ h => h) (by rfl) (by assumption) ?_ ?_
                  rotate_left
                  · (intro w9 hSw; (try dsimp only at hSw); go_simp; (try with_reducible rfl))
                  simp only [Act.put, List.setIfInBounds_toArray, List.set_cons_zero, List.set_cons_succ]
                  refine takeW (i := 12) (v := ?_) rfl (by kernel_rfl) (by kernel_rfl) (by kernel_rfl) (fun _ _ _ h => h) (by rfl) (by assumption) ?_ ?_
                  rotate_left
                  · (intro w9 hSw; (try dsimp only at hSw); go_simp; (try with_reducible rfl))
                  simp only [Act.put, List.setIfInBounds_toArray, List.set_cons_zero, List.set_cons_succ]
                  refine takeW (i := 13) (v := ?_) rfl (by kernel_rfl) (by kernel_rfl) (by kernel_rfl) (fun _ _ _ h => h) (by rfl) (by assumption) ?_ ?_
                  rotate_left
                  · (intro w9 hSw; (try dsimp only at hSw); go_simp; (try with_reducible rfl))
                  simp only [Act.put, List.setIfInBounds_toArray, List.set_cons_zero, List.set_cons_succ]
                  refine takeW (i := 14) (v := ?_) rfl (by kernel_rfl) (by kernel_rfl) (by kernel_rfl) (fun _ _ _ h => h) (by rfl) (by assumption) ?_ ?_
                  rotate_left
                  · (intro w9 hSw; (try dsimp only at hSw); go_simp; (try with_reducible rfl))
                  simp only [Act.put, List.setIfInBounds_toArray, List.set_cons_zero, List.set_cons_succ]
                  refine takeW (i := 15) (v := ?_) rfl (by kernel_rfl) (by kernel_rfl) (by kernel_rfl) (fun _ _ _ h => h) (by rfl) (by assumption) ?_ ?_
                  rotate_left
                  · (intro w9 hSw; (try dsimp only at hSw); go_simp; (try with_reducible rfl))
                  simp only [Act.put, List.setIfInBounds_toArray, List.set_cons_zero, List.set_cons_succ]
                  refine takeW (i := 16) (v := ?_) rfl (by kernel_rfl) (by kernel_rfl) (by kernel_rfl) (fun _ _ _ h => h) (by rfl) (by assumption) ?_ ?_
                  rotate_left
                  · (intro w9 hSw; (try dsimp only at hSw); go_simp; (try with_reducible rfl))
                  simp only [Act.put, List.setIfInBounds_toArray, List.set_cons_zero, List.set_cons_succ]
                  refine takeW (i := 17) (v := ?_) rfl (by kernel_rfl) (by kernel_rfl) (by kernel_rfl) (fun _ _ _ h => h) (by rfl) (by assumption) ?_ ?_
                  rotate_left
                  · (intro w9 hSw; (try dsimp only at hSw); go_simp; (try with_reducible rfl))
                  simp only [Act.put, List.setIfInBounds_toArray, List.set_cons_zero, List.set_cons_succ]
                  refine takeW (i := 18) (v := ?_) rfl (by kernel_rfl) (by kernel_rfl) (by kernel_rfl) (fun _ _ _ h => h) (by rfl) (by assumption) ?_ ?_
                  rotate_left
                  · (intro w9 hSw; (try dsimp only at hSw); go_simp; (try with_reducible rfl))
                  simp only [Act.put, List.setIfInBounds_toArray, List.set_cons_zero, List.set_cons_succ]
                  refine takeW (i := 19) (v := ?_) rfl (by kernel_rfl) (by kernel_rfl) (by kernel_rfl) (fun _ _ _ h => h) (by rfl) (by assumption) ?_ ?_
                  rotate_left
                  · (intro w9 hSw; (try dsimp only at hSw); go_simp; (try with_reducible rfl))
                  simp only [Act.put, List.setIfInBounds_toArray, List.set_cons_zero, List.set_cons_succ]
                  refine takeW (i := 20) (v := ?_) rfl (by kernel_rfl) (by kernel_rfl) (by kernel_rfl) (fun _ _ _ h => h) (by rfl) (by assumption) ?_ ?_
                  rotate_left
                  · (intro w9 hSw; (try dsimp only at hSw); go_simp; (try with_reducible rfl))
                  simp only [Act.put, List.setIfInBounds_toArray, List.set_cons_zero, List.set_cons_succ]
                  refine takeW (i := 21) (v := ?_) rfl (by kernel_rfl) (by kernel_rfl) (by kernel_rfl) (fun _ _ _ h => h) (by rfl) (by assumption) ?_ ?_
                  rotate_left
                  · (intro w9 hSw; (try dsimp only at hSw); go_simp; (try with_reducible rfl))
                  simp only [Act.put, List.setIfInBounds_toArray, List.set_cons_zero, List.set_cons_succ]
                  refine takeW (i := 22) (v := ?_) rfl (by kernel_rfl) (by kernel_rfl) (by kernel_rfl) (fun _ _ _ h => h) (by rfl) (by assumption) ?_ ?_
                  rotate_left
                  · (intro w9 hSw; (try dsimp only at hSw); go_simp; (try with_reducible rfl))
                  simp only [Act.put, List.setIfInBounds_toArray, List.set_cons_zero, List.set_cons_succ]
                  refine takeW (i := 23) (v := ?_) rfl (by kernel_rfl) (by kernel_rfl) (by kernel_rfl) (fun _ _ _ h => h) (by rfl) (by assumption) ?_ ?_
                  rotate_left
                  · (intro w9 hSw; (try dsimp only at hSw); go_simp; (try with_reducible rfl))
                  simp only [Act.put, List.setIfInBounds_toArray, List.set_cons_zero, List.set_cons_succ]
                  refine wpAnyH_done (by kernel_rfl) ?_ _
                  go_wp2
                  go_ret
                  exact ⟨ret_bool HE.out.symm, HB.out.tr hb3.dr⟩
                · have HE := Lib.hid (covIn_succ HCO.out hlt hlt' hlo (.inr hq2))
                  go_upto_region 11 with fail
                  refine wp_region_held_drew (S := (fun w' => w'.cell? ⟨w.heap.size, 1, none⟩ = some (.slice (some ⟨b, off, none⟩) p.args.length pc) ∧ w'.cell? ⟨w.heap.size + 1, 1, none⟩ = some (.slice (some ⟨b', off', none⟩) q.args.length qc) ∧ w'.cell? ⟨b, off + k, none⟩ = some (.string p.args[k]) ∧ w'.cell? ⟨b', off' + k, none⟩ = some (.string q.args[k]) ∧ w'.cell? ⟨b, off + o, none⟩ = some (.string p.args[o]) ∧ w'.cell? ⟨b', off' + o, none⟩ = some (.string q.args[o]) ∧ Up wr w')) (by kernel_rfl) (by (try dsimp only); exact ⟨k1, l1, c0, d0, c1, d1, (Up.rf _).dr⟩) (fun hHeld => ?_)
                  refine takeW (i := 0) (v := ?_) rfl (by kernel_rfl) (by kernel_rfl) (by kernel_rfl) (fun _ _ _ h => h) (by rfl) (by assumption) ?_ ?_
                  rotate_left
                  · (intro w9 hSw; (try dsimp only at hSw); go_simp; (try with_reducible rfl))
                  simp only [Act.put, List.setIfInBounds_toArray, List.set_cons_zero, List.set_cons_succ]
                  refine takeW (i := 1) (v := ?_) rfl (by kernel_rfl) (by kernel_rfl) (by kernel_rfl) (fun _ _ _ h => h) (by rfl) (by assumption) ?_ ?_
                  rotate_left
                  · (intro w9 hSw; (try dsimp only at hSw); go_simp; (try with_reducible rfl))
                  simp only [Act.put, List.setIfInBounds_toArray, List.set_cons_zero, List.set_cons_succ]
                  refine takeW (i := 2) (v := ?_) rfl (by kernel_rfl) (by kernel_rfl) (by kernel_rfl) (fun _ _ _ h => h) (by rfl) (by assumption) ?_ ?_
                  rotate_left
                  · (intro w9 hSw; (try dsimp only at hSw); go_simp; (try with_reducible rfl))
                  simp only [Act.put, List.setIfInBounds_toArray, List.set_cons_zero, List.set_cons_succ]
                  refine takeW (i := 3) (v := ?_) rfl (by kernel_rfl) (by kernel_rfl) (by kernel_rfl) (fun _ _ _ h => h) (by rfl) (by assumption) ?_ ?_
                  rotate_left
                  · (intro w9 hSw; (try dsimp only at hSw); go_simp; (try with_reducible rfl))
                  simp only [Act.put, List.setIfInBounds_toArray, List.set_cons_zero, List.set_cons_succ]
                  refine takeW (i := 4) (v := ?_) rfl (by kernel_rfl) (by kernel_rfl) (by kernel_rfl) (fun _ _ _ h => h) (by rfl) (by assumption) ?_ ?_
                  rotate_left
                  · (intro w9 hSw; (try dsimp only at hSw); go_simp; (try with_reducible rfl))
                  simp only [Act.put, List.setIfInBounds_toArray, List.set_cons_zero, List.set_cons_succ]
                  refine takeW (i := 5) (v := ?_) rfl (by kernel_rfl) (by kernel_rfl) (by kernel_rfl) (fun _ _ _ h => h) (by rfl) (by assumption) ?_ ?_
                  rotate_left
                  · (intro w9 hSw; (try dsimp only at hSw); go_simp; (try with_reducible rfl))
                  simp only [Act.put, List.setIfInBounds_toArray, List.set_cons_zero, List.set_cons_succ]
                  refine takeW (i := 6) (v := ?_) rfl (by kernel_rfl) (by kernel_rfl) (by kernel_rfl) (fun _ _ _ h => h) (by rfl) (by assumption) ?_ ?_
                  rotate_left
                  · (intro w9 hSw; (try dsimp only at hSw); go_simp; (try with_reducible rfl))
                  simp only [Act.put, List.setIfInBounds_toArray, List.set_cons_zero, List.set_cons_succ]
                  refine takeW (i := 7) (v := ?_) rfl (by kernel_rfl) (by kernel_rfl) (by kernel_rfl) (fun _ _ _ h => h) (by rfl) (by assumption) ?_ ?_
                  rotate_left
                  · (intro w9 hSw; (try dsimp only at hSw); go_simp; (try with_reducible rfl))
                  simp only [Act.put, List.setIfInBounds_toArray, List.set_cons_zero, List.set_cons_succ]
                  refine takeW (i := 8) (v := ?_) rfl (by kernel_rfl) (by kernel_rfl) (by kernel_rfl) (fun _ _ _ h => h) (by rfl) (by assumption) ?_ ?_
                  rotate_left
                  · (intro w9 hSw; (try dsimp only at hSw); go_simp; (try with_reducible rfl))
                  simp only [Act.put, List.setIfInBounds_toArray, List.set_cons_zero, List.set_cons_succ]
                  refine takeW (i := 9) (v := ?_) rfl (by kernel_rfl) (by kernel_rfl) (by kernel_rfl) (fun _ _ _ h => h) (by rfl) (by assumption) ?_ ?_
                  rotate_left
                  · (intro w9 hSw; (try dsimp only at hSw); go_simp; (try with_reducible rfl))
                  simp only [Act.put, List.setIfInBounds_toArray, List.set_cons_zero, List.set_cons_succ]
                  refine takeW (i := 10) (v := ?_) rfl (by kernel_rfl) (by kernel_rfl) (by kernel_rfl) (fun _ _ _ h => h) (by rfl) (by assumption) ?_ ?_
                  rotate_left
                  · (intro w9 hSw; (try dsimp only at hSw); go_simp; (try with_reducible rfl))
                  simp only [Act.put, List.setIfInBounds_toArray, List.set_cons_zero, List.set_cons_succ]
                  refine takeW (i := 11) (v := ?_) rfl (by kernel_rfl) (by kernel_rfl) (by kernel_rfl) (fun _ _ _ h => h) (by rfl) (by assumption) ?_ ?_
                  rotate_left
                  · (intro w9 hSw; (try dsimp only at hSw); go_simp; (try with_reducible rfl))
                  simp only [Act.put, List.setIfInBounds_toArray, List.set_cons_zero, List.set_cons_succ]
                  refine takeW (i := 12) (v := ?_) rfl (by kernel_rfl) (by kernel_rfl) (by kernel_rfl) (fun _ _ _ h => h) (by rfl) (by assumption) ?_ ?_
                  rotate_left
                  · (intro w9 hSw; (try dsimp only at hSw); go_simp; (try with_reducible rfl))
                  simp only [Act.put, List.setIfInBounds_toArray, List.set_cons_zero, List.set_cons_succ]
                  refine takeW (i := 13) (v := ?_) rfl (by kernel_rfl) (by kernel_rfl) (by kernel_rfl) (fun _ _ _ h => h) (by rfl) (by assumption) ?_ ?_
                  rotate_left
                  · (intro w9 hSw; (try dsimp only at hSw); go_simp; (try with_reducible rfl))
                  simp only [Act.put, List.setIfInBounds_toArray, List.set_cons_zero, List.set_cons_succ]
                  refine takeW (i := 14) (v := ?_) rfl (by kernel_rfl) (by kernel_rfl) (by kernel_rfl) (fun _ _ _ h => h) (by rfl) (by assumption) ?_ ?_
                  rotate_left
                  · (intro w9 hSw; (try dsimp only at hSw); go_simp; (try with_reducible rfl))
                  simp only [Act.put, List.setIfInBounds_toArray, List.set_cons_zero, List.set_cons_succ]
                  refine takeW (i := 15) (v := ?_) rfl (by kernel_rfl) (by kernel_rfl) (by kernel_rfl) (fun _ _ _ h => h) (by rfl) (by assumption) ?_ ?_
                  rotate_left
                  · (intro w9 hSw; (try dsimp only at hSw); go_simp; (try with_reducible rfl))
                  simp only [Act.put, List.setIfInBounds_toArray, List.set_cons_zero, List.set_cons_succ]
                  refine takeW (i := 16) (v := ?_) rfl (by kernel_rfl) (by kernel_rfl) (by kernel_rfl) (fun _ _ _ h => h) (by rfl) (by assumption) ?_ ?_
                  rotate_left
                  · (intro w9 hSw; (try dsimp only at hSw); go_simp; (try with_reducible rfl))
                  simp only [Act.put, List.setIfInBounds_toArray, List.set_cons_zero, List.set_cons_succ]
                  refine takeW (i := 17) (v := ?_) rfl (by kernel_rfl) (by kernel_rfl) (by kernel_rfl) (fun _ _ _ h => h) (by rfl) (by assumption) ?_ ?_
                  rotate_left
                  · (intro w9 hSw; (try dsimp only at hSw); go_simp; (try with_reducible rfl))
                  simp only [Act.put, List.setIfInBounds_toArray, List.set_cons_zero, List.set_cons_succ]
                  refine takeW (i := 18) (v := ?_) rfl (by kernel_rfl) (by kernel_rfl) (by kernel_rfl) (fun _ _ _ h => h) (by rfl) (by assumption) ?_ ?_
                  rotate_left
                  · (intro w9 hSw; (try dsimp only at hSw); go_simp; (try with_reducible rfl))
                  simp only [Act.put, List.setIfInBounds_toArray, List.set_cons_zero, List.set_cons_succ]
                  refine takeW (i := 19) (v := ?_) rfl (by kernel_rfl) (by kernel_rfl) (by kernel_rfl) (fun _ _ _ h => h) (by rfl) (by assumption) ?_ ?_
                  rotate_left
                  · (intro w9 hSw; (try dsimp only at hSw); go_simp; (try with_reducible rfl))
                  simp only [Act.put, List.setIfInBounds_toArray, List.set_cons_zero, List.set_cons_succ]
                  refine takeW (i := 20) (v := ?_) rfl (by kernel_rfl) (by kernel_rfl) (by kernel_rfl) (fun _ _ _ h => h) (by rfl) (by assumption) ?_ ?_
                  rotate_left
                  · (intro w9 hSw; (try dsimp only at hSw); go_simp; (try with_reducible rfl))
                  simp only [Act.put, List.setIfInBounds_toArray, List.set_cons_zero, List.set_cons_succ]
                  refine takeW (i := 21) (v := ?_) rfl (by kernel_rfl) (by kernel_rfl) (by kernel_rfl) (fun _ _ _ h => h) (by rfl) (by assumption) ?_ ?_
                  rotate_left
                  · (intro w9 hSw; (try dsimp only at hSw); go_simp; (try with_reducible rfl))
                  simp only [Act.put, List.setIfInBounds_toArray, List.set_cons_zero, List.set_cons_succ]
                  refine takeW (i := 22) (v := ?_) rfl (by kernel_rfl) (by kernel_rfl) (by kernel_rfl) (fun _ _ _ h => h) (by rfl) (by assumption) ?_ ?_
                  rotate_left
                  · (intro w9 hSw; (try dsimp only at hSw); go_simp; (try with_reducible rfl))
                  simp only [Act.put, List.setIfInBounds_toArray, List.set_cons_zero, List.set_cons_succ]
                  refine takeW (i := 23) (v := ?_) rfl (by kernel_rfl) (by kernel_rfl) (by kernel_rfl) (fun _ _ _ h => h) (by rfl) (by assumption) ?_ ?_
                  rotate_left
                  · (intro w9 hSw; (try dsimp only at hSw); go_simp; (try with_reducible rfl))
                  simp only [Act.put, List.setIfInBounds_toArray, List.set_cons_zero, List.set_cons_succ]
                  refine wpAnyH_done (by kernel_rfl) ?_ _
                  go_wp2
                  exact ⟨⟨o+1, by omega, by go_num, hb2.dr, HE.out⟩, by simp [intOf]; omega⟩
            · obtain rfl : o = k := by omega
              have HC' := Lib.hid (covTo_succ HC.out HCO.out)
              have hlo9 : ¬ (o : Int) < (o : Int) := by omega
              go_wp2
              exact ⟨⟨o+1, by omega, by go_num, hb3, HC'.out⟩, by simp [intOf]; omega⟩
        · cases hq : (p.args[k].toList == q.args[k].toList)
          · have HE := Lib.hid (cov_f hlt (covI_a hlt hlt' hA hq))
            go_upto_region 6 with fail
            refine wp_region_held_drew (S := (fun w' => w'.cell? ⟨w.heap.size, 1, none⟩ = some (.slice (some ⟨b, off, none⟩) p.args.length pc) ∧ w'.cell? ⟨w.heap.size + 1, 1, none⟩ = some (.slice (some ⟨b', off', none⟩) q.args.length qc) ∧ w'.cell? ⟨b, off + k, none⟩ = some (.string p.args[k]) ∧ w'.cell? ⟨b', off' + k, none⟩ = some (.string q.args[k]) ∧ Up wr w')) (by kernel_rfl) (by (try dsimp only); exact ⟨k1, l1, c0, d0, (Up.rf _).dr⟩) (fun hHeld => ?_)
            refine takeW (i := 0) (v := ?_) rfl (by kernel_rfl) (by kernel_rfl) (by kernel_rfl) (fun _ _ _ h => h) (by rfl) (by assumption) ?_ ?_
            rotate_left
            · (intro w9 hSw; (try dsimp only at hSw); go_simp; (try with_reducible rfl))
            simp only [Act.put, List.setIfInBounds_toArray, List.set_cons_zero, List.set_cons_succ]
            refine takeW (i := 1) (v := ?_) rfl (by kernel_rfl) (by kernel_rfl) (by kernel_rfl) (fun _ _ _ h => h) (by rfl) (by assumption) ?_ ?_
            rotate_left
            · (intro w9 hSw; (try dsimp only at hSw); go_simp; (try with_reducible rfl))
            simp only [Act.put, List.setIfInBounds_toArray, List.set_cons_zero, List.set_cons_succ]
            refine takeW (i := 2) (v := ?_) rfl (by kernel_rfl) (by kernel_rfl) (by kernel_rfl) (fun _ _ _ h => h) (by rfl) (by assumption) ?_ ?_
            rotate_left
            · (intro w9 hSw; (try dsimp only at hSw); go_simp; (try with_reducible rfl))
            simp only [Act.put, List.setIfInBounds_toArray, List.set_cons_zero, List.set_cons_succ]
            refine takeW (i := 3) (v := ?_) rfl (by kernel_rfl) (by kernel_rfl) (by kernel_rfl) (fun _ _ _ h => h) (by rfl) (by assumption) ?_ ?_
            rotate_left
            · (intro w9 hSw; (try dsimp only at hSw); go_simp; (try with_reducible rfl))
            simp only [Act.put, List.setIfInBounds_toArray, List.set_cons_zero, List.set_cons_succ]
            refine takeW (i := 4) (v := ?_) rfl (by kernel_rfl) (by kernel_rfl) (by kernel_rfl) (fun _ _ _ h => h) (by rfl) (by assumption) ?_ ?_
            rotate_left
            · (intro w9 hSw; (try dsimp only at hSw); go_simp; (try with_reducible rfl))
            simp only [Act.put, List.setIfInBounds_toArray, List.set_cons_zero, List.set_cons_succ]
            refine comeC (i := 5) rfl (by kernel_rfl) (by rfl) (fun K hK => ?_)
            go_simp
            go_at_call 35; refine (atomS_any _ _ (by unfold maxLen; omega)).mono ?_; rintro e w9 ⟨rfl, rfl⟩; rw [hA]
            go_wp2_with fail
            refine hK.out _ _ (by (try dsimp only); exact hHeld) (fun hHeld => ?_)
            clear hK K
            try simp only [Act.put, List.setIfInBounds_toArray, List.set_cons_zero, List.set_cons_succ]
            refine takeW (i := 6) (v := ?_) rfl (by kernel_rfl) (by kernel_rfl) (by kernel_rfl) (fun _ _ _ h => h) (by rfl) (by assumption) ?_ ?_
            rotate_left
            · (intro w9 hSw; (try dsimp only at hSw); go_simp; (try with_reducible rfl))
            simp only [Act.put, List.setIfInBounds_toArray, List.set_cons_zero, List.set_cons_succ]
            refine takeW (i := 7) (v := ?_) rfl (by kernel_rfl) (by kernel_rfl) (by kernel_rfl) (fun _ _ _ h => h) (by rfl) (by assumption) ?_ ?_
            rotate_left
            · (intro w9 hSw; (try dsimp only at hSw); go_simp; (try with_reducible rfl))
            simp only [Act.put, List.setIfInBounds_toArray, List.set_cons_zero, List.set_cons_succ]
            refine takeW (i := 8) (v := ?_) rfl (by kernel_rfl) (by kernel_rfl) (by kernel_rfl) (fun _ _ _ h => h) (by rfl) (by assumption) ?_ ?_
            rotate_left
            · (intro w9 hSw; (try dsimp only at hSw); go_simp; (try with_reducible rfl))
            simp only [Act.put, List.setIfInBounds_toArray, List.set_cons_zero, List.set_cons_succ]
            refine takeW (i := 9) (v := ?_) rfl (by kernel_rfl) (by kernel_rfl) (by kernel_rfl) (fun _ _ _ h => h) (by rfl) (by assumption) ?_ ?_
            rotate_left
            · (intro w9 hSw; (try dsimp only at hSw); go_simp; (try with_reducible rfl))
            simp only [Act.put, List.setIfInBounds_toArray, List.set_cons_zero, List.set_cons_succ]
            refine takeW (i := 10) (v := ?_) rfl (by kernel_rfl) (by kernel_rfl) (by kernel_rfl) (fun _ _ _ h => h) (by rfl) (by assumption) ?_ ?_
            rotate_left
            · (intro w9 hSw; (try dsimp only at hSw); go_simp; (try with_reducible rfl))
            simp only [Act.put, List.setIfInBounds_toArray, List.set_cons_zero, List.set_cons_succ]
            refine takeW (i := 11) (v := ?_) rfl (by kernel_rfl) (by kernel_rfl) (by kernel_rfl) (fun _ _ _ h => h) (by rfl) (by assumption) ?_ ?_
            rotate_left
            · (intro w9 hSw; (try dsimp only at hSw); go_simp; (try with_reducible rfl))
            simp only [Act.put, List.setIfInBounds_toArray, List.set_cons_zero, List.set_cons_succ]
            refine takeW (i := 12) (v := ?_) rfl (by kernel_rfl) (by kernel_rfl) (by kernel_rfl) (fun _ _ _ h => h) (by rfl) (by assumption) ?_ ?_
            rotate_left
            · (intro w9 hSw; (try dsimp only at hSw); go_simp; (try with_reducible rfl))
            simp only [Act.put, List.setIfInBounds_toArray, List.set_cons_zero, List.set_cons_succ]
            refine takeW (i := 13) (v := ?_) rfl (by kernel_rfl) (by kernel_rfl) (by kernel_rfl) (fun _ _ _ h => h) (by rfl) (by assumption) ?_ ?_
            rotate_left
            · (intro w9 hSw; (try dsimp only at hSw); go_simp; (try with_reducible rfl))
            simp only [Act.put, List.setIfInBounds_toArray, List.set_cons_zero, List.set_cons_succ]
            refine takeW (i := 14) (v := ?_) rfl (by kernel_rfl) (by kernel_rfl) (by kernel_rfl) (fun _ _ _ h => h) (by rfl) (by assumption) ?_ ?_
            rotate_left
            · (intro w9 hSw; (try dsimp only at hSw); go_simp; (try with_reducible rfl))
            simp only [Act.put, List.setIfInBounds_toArray, List.set_cons_zero, List.set_cons_succ]
            refine takeW (i := 15) (v := ?_) rfl (by kernel_rfl) (by kernel_rfl) (by kernel_rfl) (fun _ _ _ h => h) (by rfl) (by assumption) ?_ ?_
            rotate_left
            · (intro w9 hSw; (try dsimp only at hSw); go_simp; (try with_reducible rfl))
            simp only [Act.put, List.setIfInBounds_toArray, List.set_cons_zero, List.set_cons_succ]
            refine takeW (i := 16) (v := ?_) rfl (by kernel_rfl) (by kernel_rfl) (by kernel_rfl) (fun _ _ _ h => h) (by rfl) (by assumption) ?_ ?_
            rotate_left
            · (intro w9 hSw; (try dsimp only at hSw); go_simp; (try with_reducible rfl))
            simp only [Act.put, List.setIfInBounds_toArray, List.set_cons_zero, List.set_cons_succ]
            refine takeW (i := 17) (v := ?_) rfl (by kernel_rfl) (by kernel_rfl) (by kernel_rfl) (fun _ _ _ h => h) (by rfl) (by assumption) ?_ ?_
            rotate_left
            · (intro w9 hSw; (try dsimp only at hSw); go_simp; (try with_reducible rfl))
            simp only [Act.put, List.setIfInBounds_toArray, List.set_cons_zero, List.set_cons_succ]
            refine takeW (i := 18) (v := ?_) rfl (by kernel_rfl) (by kernel_rfl) (by kernel_rfl) (fun _ _ _ h => h) (by rfl) (by assumption) ?_ ?_
            rotate_left
            · (intro w9 hSw; (try dsimp only at hSw); go_simp; (try with_reducible rfl))
            simp only [Act.put, List.setIfInBounds_toArray, List.set_cons_zero, List.set_cons_succ]
            refine wpAnyH_done (by kernel_rfl) ?_ _
            go_wp2
            go_ret
            exact ⟨ret_bool HE.out.symm, HB.out.tr hb.dr⟩
          · have hci := covIn_0 hlt hlt' (.inr hq)
            go_upto_region 6 with fail
            refine wp_region_held_drew (S := (fun w' => w'.cell? ⟨w.heap.size, 1, none⟩ = some (.slice (some ⟨b, off, none⟩) p.args.length pc) ∧ w'.cell? ⟨w.heap.size + 1, 1, none⟩ = some (.slice (some ⟨b', off', none⟩) q.args.length qc) ∧ w'.cell? ⟨b, off + k, none⟩ = some (.string p.args[k]) ∧ w'.cell? ⟨b', off' + k, none⟩ = some (.string q.args[k]) ∧ Up wr w')) (by kernel_rfl) (by (try dsimp only); exact ⟨k1, l1, c0, d0, (Up.rf _).dr⟩) (fun hHeld => ?_)
            refine takeW (i := 0) (v := ?_) rfl (by kernel_rfl) (by kernel_rfl) (by kernel_rfl) (fun _ _ _ h => h) (by rfl) (by assumption) ?_ ?_
            rotate_left
            · (intro w9 hSw; (try dsimp only at hSw); go_simp; (try with_reducible rfl))
            simp only [Act.put, List.setIfInBounds_toArray, List.set_cons_zero, List.set_cons_succ]
            refine takeW (i := 1) (v := ?_) rfl (by kernel_rfl) (by kernel_rfl) (by kernel_rfl) (fun _ _ _ h => h) (by rfl) (by assumption) ?_ ?_
            rotate_left
            · (intro w9 hSw; (try dsimp only at hSw); go_simp; (try with_reducible rfl))
            simp only [Act.put, List.setIfInBounds_toArray, List.set_cons_zero, List.set_cons_succ]
            refine takeW (i := 2) (v := ?_) rfl (by kernel_rfl) (by kernel_rfl) (by kernel_rfl) (fun _ _ _ h => h) (by rfl) (by assumption) ?_ ?_
            rotate_left
            · (intro w9 hSw; (try dsimp only at hSw); go_simp; (try with_reducible rfl))
            simp only [Act.put, List.setIfInBounds_toArray, List.set_cons_zero, List.set_cons_succ]
            refine takeW (i := 3) (v := ?_) rfl (by kernel_rfl) (by kernel_rfl) (by kernel_rfl) (fun _ _ _ h => h) (by rfl) (by assumption) ?_ ?_
            rotate_left
            · (intro w9 hSw; (try dsimp only at hSw); go_simp; (try with_reducible rfl))
            simp only [Act.put, List.setIfInBounds_toArray, List.set_cons_zero, List.set_cons_succ]
            refine takeW (i := 4) (v := ?_) rfl (by kernel_rfl) (by kernel_rfl) (by kernel_rfl) (fun _ _ _ h => h) (by rfl) (by assumption) ?_ ?_
            rotate_left
            · (intro w9 hSw; (try dsimp only at hSw); go_simp; (try with_reducible rfl))
            simp only [Act.put, List.setIfInBounds_toArray, List.set_cons_zero, List.set_cons_succ]
            refine comeC (i := 5) rfl (by kernel_rfl) (by rfl) (fun K hK => ?_)
            go_simp
            go_at_call 35; refine (atomS_any _ _ (by unfold maxLen; omega)).mono ?_; rintro e w9 ⟨rfl, rfl⟩; rw [hA]
            go_wp2_with fail
            refine hK.out _ _ (by (try dsimp only); exact hHeld) (fun hHeld => ?_)
            clear hK K
            try simp only [Act.put, List.setIfInBounds_toArray, List.set_cons_zero, List.set_cons_succ]
            refine takeW (i := 6) (v := ?_) rfl (by kernel_rfl) (by kernel_rfl) (by kernel_rfl) (fun _ _ _ h => h) (by rfl) (by assumption) ?_ ?_
            rotate_left
            · (intro w9 hSw; (try dsimp only at hSw); go_simp; (try with_reducible rfl))
            simp only [Act.put, List.setIfInBounds_toArray, List.set_cons_zero, List.set_cons_succ]
            refine takeW (i := 7) (v := ?_) rfl (by kernel_rfl) (by kernel_rfl) (by kernel_rfl) (fun _ _ _ h => h) (by rfl) (by assumption) ?_ ?_
            rotate_left
            · (intro w9 hSw; (try dsimp only at hSw); go_simp; (try with_reducible rfl))
            simp only [Act.put, List.setIfInBounds_toArray, List.set_cons_zero, List.set_cons_succ]
            refine takeW (i := 8) (v := ?_) rfl (by kernel_rfl) (by kernel_rfl) (by kernel_rfl) (fun _ _ _ h => h) (by rfl) (by assumption) ?_ ?_
            rotate_left
            · (intro w9 hSw; (try dsimp only at hSw); go_simp; (try with_reducible rfl))
            simp only [Act.put, List.setIfInBounds_toArray, List.set_cons_zero, List.set_cons_succ]
            refine takeW (i := 9) (v := ?_) rfl (by kernel_rfl) (by kernel_rfl) (by kernel_rfl) (fun _ _ _ h => h) (by rfl) (by assumption) ?_ ?_
            rotate_left
            · (intro w9 hSw; (try dsimp only at hSw); go_simp; (try with_reducible rfl))
            simp only [Act.put, List.setIfInBounds_toArray, List.set_cons_zero, List.set_cons_succ]
            refine takeW (i := 10) (v := ?_) rfl (by kernel_rfl) (by kernel_rfl) (by kernel_rfl) (fun _ _ _ h => h) (by rfl) (by assumption) ?_ ?_
            rotate_left
            · (intro w9 hSw; (try dsimp only at hSw); go_simp; (try with_reducible rfl))
            simp only [Act.put, List.setIfInBounds_toArray, List.set_cons_zero, List.set_cons_succ]
            refine takeW (i := 11) (v := ?_) rfl (by kernel_rfl) (by kernel_rfl) (by kernel_rfl) (fun _ _ _ h => h) (by rfl) (by assumption) ?_ ?_
            rotate_left
            · (intro w9 hSw; (try dsimp only at hSw); go_simp; (try with_reducible rfl))
            simp only [Act.put, List.setIfInBounds_toArray, List.set_cons_zero, List.set_cons_succ]
            refine takeW (i := 12) (v := ?_) rfl (by kernel_rfl) (by kernel_rfl) (by kernel_rfl) (fun _ _ _ h => h) (by rfl) (by assumption) ?_ ?_
            rotate_left
            · (intro w9 hSw; (try dsimp only at hSw); go_simp; (try with_reducible rfl))
            simp only [Act.put, List.setIfInBounds_toArray, List.set_cons_zero, List.set_cons_succ]
            refine takeW (i := 13) (v := ?_) rfl (by kernel_rfl) (by kernel_rfl) (by kernel_rfl) (fun _ _ _ h => h) (by rfl) (by assumption) ?_ ?_
            rotate_left
            · (intro w9 hSw; (try dsimp only at hSw); go_simp; (try with_reducible rfl))
            simp only [Act.put, List.setIfInBounds_toArray, List.set_cons_zero, List.set_cons_succ]
            refine takeW (i := 14) (v := ?_) rfl (by kernel_rfl) (by kernel_rfl) (by kernel_rfl) (fun _ _ _ h => h) (by rfl) (by assumption) ?_ ?_
            rotate_left
            · (intro w9 hSw; (try dsimp only at hSw); go_simp; (try with_reducible rfl))
            simp only [Act.put, List.setIfInBounds_toArray, List.set_cons_zero, List.set_cons_succ]
            refine takeW (i := 15) (v := ?_) rfl (by kernel_rfl) (by kernel_rfl) (by kernel_rfl) (fun _ _ _ h => h) (by rfl) (by assumption) ?_ ?_
            rotate_left
            · (intro w9 hSw; (try dsimp only at hSw); go_simp; (try with_reducible rfl))
            simp only [Act.put, List.setIfInBounds_toArray, List.set_cons_zero, List.set_cons_succ]
            refine takeW (i := 16) (v := ?_) rfl (by kernel_rfl) (by kernel_rfl) (by kernel_rfl) (fun _ _ _ h => h) (by rfl) (by assumption) ?_ ?_
            rotate_left
            · (intro w9 hSw; (try dsimp only at hSw); go_simp; (try with_reducible rfl))
            simp only [Act.put, List.setIfInBounds_toArray, List.set_cons_zero, List.set_cons_succ]
            refine takeW (i := 17) (v := ?_) rfl (by kernel_rfl) (by kernel_rfl) (by kernel_rfl) (fun _ _ _ h => h) (by rfl) (by assumption) ?_ ?_
            rotate_left
            · (intro w9 hSw; (try dsimp only at hSw); go_simp; (try with_reducible rfl))
            simp only [Act.put, List.setIfInBounds_toArray, List.set_cons_zero, List.set_cons_succ]
            refine takeW (i := 18) (v := ?_) rfl (by kernel_rfl) (by kernel_rfl) (by kernel_rfl) (fun _ _ _ h => h) (by rfl) (by assumption) ?_ ?_
            rotate_left
            · (intro w9 hSw; (try dsimp only at hSw); go_simp; (try with_reducible rfl))
            simp only [Act.put, List.setIfInBounds_toArray, List.set_cons_zero, List.set_cons_succ]
            refine wpAnyH_done (by kernel_rfl) ?_ _
            have HU := Lib.hid (show Up wr _ from (Up.rf wr).dr)
            have HCI := Lib.hid hci
            clear hci hHeld
            go_wp2_with fail
            go_loopw [6] (fun j wi => ∃ (o : Nat), o ≤ k ∧ j = .int .i64 o ∧ Up wr wi ∧ Hid (CovIn p.args q.args k o)) (fun j _ => k - (intOf j).toNat)
            case atStart => exact ⟨0, Nat.zero_le _, rfl, HU.out, HCI.out⟩
            case round =>
              clear k1 l1 c0 d0
              obtain ⟨o, ho, rfl, hb2, HCO⟩ := hrel
              have hb3 := hb.tr hb2
              have k1 := (KP.out.up hb3).cell1; have l1 := (KQ.out.up hb3).cell1
              by_cases hlo : o < k
              · have hlp : o < p.args.length := by omega
                have hlq : o < q.args.length := by omega
                obtain ⟨_, _, e9, -, -, c0⟩ := (HPT.out.up hb3).1.at hlt; injection e9 with e9; injection e9 with e9a e9b; subst e9a e9b
                obtain ⟨_, _, e9, -, -, d0⟩ := (HQT.out.up hb3).1.at hlt'; injection e9 with e9; injection e9 with e9a e9b; subst e9a e9b
                obtain ⟨_, _, e9, -, -, c1⟩ := (HPT.out.up hb3).1.at hlp; injection e9 with e9; injection e9 with e9a e9b; subst e9a e9b
                obtain ⟨_, _, e9, -, -, d1⟩ := (HQT.out.up hb3).1.at hlq; injection e9 with e9; injection e9 with e9a e9b; subst e9a e9b
                have j1 : (0 : Int) ≤ (o : Int) := by omega
                have j2 : (o : Int) < (p.args.length : Int) := by omega
                have j3 : (o : Int) < (q.args.length : Int) := by omega
                have hlo9 : (o : Int) < (k : Int) := by omega
                cases hq1 : (p.args[k].toList == p.args[o].toList)
                · have HE := Lib.hid (covIn_succ HCO.out hlt hlt' hlo (.inl hq1))
                  go_upto_region 11 with fail
                  refine wp_region_held_drew (S := (fun w' => w'.cell? ⟨w.heap.size, 1, none⟩ = some (.slice (some ⟨b, off, none⟩) p.args.length pc) ∧ w'.cell? ⟨w.heap.size + 1, 1, none⟩ = some (.slice (some ⟨b', off', none⟩) q.args.length qc) ∧ w'.cell? ⟨b, off + k, none⟩ = some (.string p.args[k]) ∧ w'.cell? ⟨b', off' + k, none⟩ = some (.string q.args[k]) ∧ w'.cell? ⟨b, off + o, none⟩ = some (.string p.args[o]) ∧ w'.cell? ⟨b', off' + o, none⟩ = some (.string q.args[o]) ∧ Up wr w')) (by kernel_rfl) (by (try dsimp only); exact ⟨k1, l1, c0, d0, c1, d1, (Up.rf _).dr⟩) (fun hHeld => ?_)
                  refine takeW (i := 0) (v := ?_) rfl (by kernel_rfl) (by kernel_rfl) (by kernel_rfl) (fun _ _ _ h => h) (by rfl) (by assumption) ?_ ?_
                  rotate_left
                  · (intro w9 hSw; (try dsimp only at hSw); go_simp; (try with_reducible rfl))
                  simp only [Act.put, List.setIfInBounds_toArray, List.set_cons_zero, List.set_cons_succ]
                  refine takeW (i := 1) (v := ?_) rfl (by kernel_rfl) (by kernel_rfl) (by kernel_rfl) (fun _ _ _ h => h) (by rfl) (by assumption) ?_ ?_
                  rotate_left
                  · (intro w9 hSw; (try dsimp only at hSw); go_simp; (try with_reducible rfl))
                  simp only [Act.put, List.setIfInBounds_toArray, List.set_cons_zero, List.set_cons_succ]
                  refine takeW (i := 2) (v := ?_) rfl (by kernel_rfl) (by kernel_rfl) (by kernel_rfl) (fun _ _ _ h => h) (by rfl) (by assumption) ?_ ?_
                  rotate_left
                  · (intro w9 hSw; (try dsimp only at hSw); go_simp; (try with_reducible rfl))
                  simp only [Act.put, List.setIfInBounds_toArray, List.set_cons_zero, List.set_cons_succ]
                  refine takeW (i := 3) (v := ?_) rfl (by kernel_rfl) (by kernel_rfl) (by kernel_rfl) (fun _ _ _ h => h) (by rfl) (by assumption) ?_ ?_
                  rotate_left
                  · (intro w9 hSw; (try dsimp only at hSw); go_simp; (try with_reducible rfl))
                  simp only [Act.put, List.setIfInBounds_toArray, List.set_cons_zero, List.set_cons_succ]
                  refine takeW (i := 4) (v := ?_) rfl (by kernel_rfl) (by kernel_rfl) (by kernel_rfl) (fun _ _ _ h => h) (by rfl) (by assumption) ?_ ?_
                  rotate_left
                  · (intro w9 hSw; (try dsimp only at hSw); go_simp; (try with_reducible rfl))
                  simp only [Act.put, List.setIfInBounds_toArray, List.set_cons_zero, List.set_cons_succ]
                  refine takeW (i := 5) (v := ?_) rfl (by kernel_rfl) (by kernel_rfl) (by kernel_rfl) (fun _ _ _ h => h) (by rfl) (by assumption) ?_ ?_
                  rotate_left
                  · (intro w9 hSw; (try dsimp only at hSw); go_simp; (try with_reducible rfl))
                  simp only [Act.put, List.setIfInBounds_toArray, List.set_cons_zero, List.set_cons_succ]
                  refine takeW (i := 6) (v := ?_) rfl (by kernel_rfl) (by kernel_rfl) (by kernel_rfl) (fun _ _ _ h => h) (by rfl) (by assumption) ?_ ?_
                  rotate_left
                  · (intro w9 hSw; (try dsimp only at hSw); go_simp; (try with_reducible rfl))
                  simp only [Act.put, List.setIfInBounds_toArray, List.set_cons_zero, List.set_cons_succ]
                  refine takeW (i := 7) (v := ?_) rfl (by kernel_rfl) (by kernel_rfl) (by kernel_rfl) (fun _ _ _ h => h) (by rfl) (by assumption) ?_ ?_
                  rotate_left
                  · (intro w9 hSw; (try dsimp only at hSw); go_simp; (try with_reducible rfl))
                  simp only [Act.put, List.setIfInBounds_toArray, List.set_cons_zero, List.set_cons_succ]
                  refine takeW (i := 8) (v := ?_) rfl (by kernel_rfl) (by kernel_rfl) (by kernel_rfl) (fun _ _ _ h => h) (by rfl) (by assumption) ?_ ?_
                  rotate_left
                  · (intro w9 hSw; (try dsimp only at hSw); go_simp; (try with_reducible rfl))
                  simp only [Act.put, List.setIfInBounds_toArray, List.set_cons_zero, List.set_cons_succ]
                  refine takeW (i := 9) (v := ?_) rfl (by kernel_rfl) (by kernel_rfl) (by kernel_rfl) (fun _ _ _ h => h) (by rfl) (by assumption) ?_ ?_
                  rotate_left
                  · (intro w9 hSw; (try dsimp only at hSw); go_simp; (try with_reducible rfl))
                  simp only [Act.put, List.setIfInBounds_toArray, List.set_cons_zero, List.set_cons_succ]
                  refine takeW (i := 10) (v := ?_) rfl (by kernel_rfl) (by kernel_rfl) (by kernel_rfl) (fun _ _ _ h => h) (by rfl) (by assumption) ?_ ?_
                  rotate_left
                  · (intro w9 hSw; (try dsimp only at hSw); go_simp; (try with_reducible rfl))
                  simp only [Act.put, List.setIfInBounds_toArray, List.set_cons_zero, List.set_cons_succ]
                  refine takeW (i := 11) (v := ?_) rfl (by kernel_rfl) (by kernel_rfl) (by kernel_rfl) (fun _ _ _ h => h) (by rfl) (by assumption) ?_ ?_
                  rotate_left
                  · (intro w9 hSw; (try dsimp only at hSw); go_simp; (try with_reducible rfl))
                  simp only [Act.put, List.setIfInBounds_toArray, List.set_cons_zero, List.set_cons_succ]
                  refine takeU (i := 12) rfl (by kernel_rfl) (by kernel_rfl) (by kernel_rfl) (fun _ _ _ h => h) rfl rfl rfl rfl rfl (by first | rfl | (rw [hd]; rfl) | (rw [hdN]; rfl)) (by assumption) ?_
                  simp only [Act.put, List.setIfInBounds_toArray, List.set_cons_zero, List.set_cons_succ]
                  refine takeU (i := 13) rfl (by kernel_rfl) (by kernel_rfl) (by kernel_rfl) (fun _ _ _ h => h) rfl rfl rfl rfl rfl (by first | rfl | (rw [hd]; rfl) | (rw [hdN]; rfl)) (by assumption) ?_
                  simp only [Act.put, List.setIfInBounds_toArray, List.set_cons_zero, List.set_cons_succ]
                  refine takeU (i := 14) rfl (by kernel_rfl) (by kernel_rfl) (by kernel_rfl) (fun _ _ _ h => h) rfl rfl rfl rfl rfl (by first | rfl | (rw [hd]; rfl) | (rw [hdN]; rfl)) (by assumption) ?_
                  simp only [Act.put, List.setIfInBounds_toArray, List.set_cons_zero, List.set_cons_succ]
                  refine takeU (i := 15) rfl (by kernel_rfl) (by kernel_rfl) (by kernel_rfl) (fun _ _ _ h => h) rfl rfl rfl rfl rfl (by first | rfl | (rw [hd]; rfl) | (rw [hdN]; rfl)) (by assumption) ?_
                  simp only [Act.put, List.setIfInBounds_toArray, List.set_cons_zero, List.set_cons_succ]
                  refine takeU (i := 16) rfl (by kernel_rfl) (by kernel_rfl) (by kernel_rfl) (fun _ _ _ h => h) rfl rfl rfl rfl rfl (by first | rfl | (rw [hd]; rfl) | (rw [hdN]; rfl)) (by assumption) ?_
                  simp only [Act.put, List.setIfInBounds_toArray, List.set_cons_zero, List.set_cons_succ]
                  refine takeU (i := 17) rfl (by kernel_rfl) (by kernel_rfl) (by kernel_rfl) (fun _ _ _ h => h) rfl rfl rfl rfl rfl (by first | rfl | (rw [hd]; rfl) | (rw [hdN]; rfl)) (by assumption) ?_
                  simp only [Act.put, List.setIfInBounds_toArray, List.set_cons_zero, List.set_cons_succ]
                  refine takeU (i := 18) rfl (by kernel_rfl) (by kernel_rfl) (by kernel_rfl) (fun _ _ _ h => h) rfl rfl rfl rfl rfl (by first | rfl | (rw [hd]; rfl) | (rw [hdN]; rfl)) (by assumption) ?_
                  simp only [Act.put, List.setIfInBounds_toArray, List.set_cons_zero, List.set_cons_succ]
                  refine takeU (i := 19) rfl (by kernel_rfl) (by kernel_rfl) (by kernel_rfl) (fun _ _ _ h => h) rfl rfl rfl rfl rfl (by first | rfl | (rw [hd]; rfl) | (rw [hdN]; rfl)) (by assumption) ?_
                  simp only [Act.put, List.setIfInBounds_toArray, List.set_cons_zero, List.set_cons_succ]
                  refine takeU (i := 20) rfl (by kernel_rfl) (by kernel_rfl) (by kernel_rfl) (fun _ _ _ h => h) rfl rfl rfl rfl rfl (by first | rfl | (rw [hd]; rfl) | (rw [hdN]; rfl)) (by assumption) ?_
                  simp only [Act.put, List.setIfInBounds_toArray, List.set_cons_zero, List.set_cons_succ]
                  refine takeU (i := 21) rfl (by kernel_rfl) (by kernel_rfl) (by kernel_rfl) (fun _ _ _ h => h) rfl rfl rfl rfl rfl (by first | rfl | (rw [hd]; rfl) | (rw [hdN]; rfl)) (by assumption) ?_
                  simp only [Act.put, List.setIfInBounds_toArray, List.set_cons_zero, List.set_cons_succ]
                  refine takeU (i := 22) rfl (by kernel_rfl) (by kernel_rfl) (by kernel_rfl) (fun _ _ _ h => h) rfl rfl rfl rfl rfl (by first | rfl | (rw [hd]; rfl) | (rw [hdN]; rfl)) (by assumption) ?_
                  simp only [Act.put, List.setIfInBounds_toArray, List.set_cons_zero, List.set_cons_succ]
                  refine takeW (i := 23) (v := ?_) rfl (by kernel_rfl) (by kernel_rfl) (by kernel_rfl) (fun _ _ _ h => h) (by rfl) (by assumption) ?_ ?_
                  rotate_left
                  · (intro w9 hSw; (try dsimp only at hSw); go_simp; (try with_reducible rfl))
                  simp only [Act.put, List.setIfInBounds_toArray, List.set_cons_zero, List.set_cons_succ]
                  refine wpAnyH_done (by kernel_rfl) ?_ _
                  go_wp2
                  exact ⟨⟨o+1, by omega, by go_num, hb2.dr, HE.out⟩, by simp [intOf]; omega⟩
                · cases hq2 : (q.args[k].toList == q.args[o].toList)
                  · have HE := Lib.hid (cov_f hlt (covI_k hlt hlt' hlo hq1 hq2))
                    go_upto_region 11 with fail
                    refine wp_region_held_drew (S := (fun w' => w'.cell? ⟨w.heap.size, 1, none⟩ = some (.slice (some ⟨b, off, none⟩) p.args.length pc) ∧ w'.cell? ⟨w.heap.size + 1, 1, none⟩ = some (.slice (some ⟨b', off', none⟩) q.args.length qc) ∧ w'.cell? ⟨b, off + k, none⟩ = some (.string p.args[k]) ∧ w'.cell? ⟨b', off' + k, none⟩ = some (.string q.args[k]) ∧ w'.cell? ⟨b, off + o, none⟩ = some (.string p.args[o]) ∧ w'.cell? ⟨b', off' + o, none⟩ = some (.string q.args[o]) ∧ Up wr w')) (by kernel_rfl) (by (try dsimp only); exact ⟨k1, l1, c0, d0, c1, d1, (Up.rf _).dr⟩) (fun hHeld => ?_)
                    refine takeW (i := 0) (v := ?_) rfl (by kernel_rfl) (by kernel_rfl) (by kernel_rfl) (fun _ _ _ h => h) (by rfl) (by assumption) ?_ ?_
                    rotate_left
                    · (intro w9 hSw; (try dsimp only at hSw); go_simp; (try with_reducible rfl))
                    simp only [Act.put, List.setIfInBounds_toArray, List.set_cons_zero, List.set_cons_succ]
                    refine takeW (i := 1) (v := ?_) rfl (by kernel_rfl) (by kernel_rfl) (by kernel_rfl) (fun _ _ _ h => h) (by rfl) (by assumption) ?_ ?_
                    rotate_left
                    · (intro w9 hSw; (try dsimp only at hSw); go_simp; (try with_reducible rfl))
                    simp only [Act.put, List.setIfInBounds_toArray, List.set_cons_zero, List.set_cons_succ]
                    refine takeW (i := 2) (v := ?_) rfl (by kernel_rfl) (by kernel_rfl) (by kernel_rfl) (fun _ _ _ h => h) (by rfl) (by assumption) ?_ ?_
                    rotate_left
                    · (intro w9 hSw; (try dsimp only at hSw); go_simp; (try with_reducible rfl))
                    simp only [Act.put, List.setIfInBounds_toArray, List.set_cons_zero, List.set_cons_succ]
                    refine takeW (i := 3) (v := ?_) rfl (by kernel_rfl) (by kernel_rfl) (by kernel_rfl) (fun _ _ _ h => h) (by rfl) (by assumption) ?_ ?_
                    rotate_left
                    · (intro w9 hSw; (try dsimp only at hSw); go_simp; (try with_reducible rfl))
                    simp only [Act.put, List.setIfInBounds_toArray, List.set_cons_zero, List.set_cons_succ]
                    refine takeW (i := 4) (v := ?_) rfl (by kernel_rfl) (by kernel_rfl) (by kernel_rfl) (fun _ _ _ h => h) (by rfl) (by assumption) ?_ ?_
                    rotate_left
                    · (intro w9 hSw; (try dsimp only at hSw); go_simp; (try with_reducible rfl))
                    simp only [Act.put, List.setIfInBounds_toArray, List.set_cons_zero, List.set_cons_succ]
                    refine takeW (i := 5) (v := ?_) rfl (by kernel_rfl) (by kernel_rfl) (by kernel_rfl) (fun _ _ _ h => h) (by rfl) (by assumption) ?_ ?_
                    rotate_left
                    · (intro w9 hSw; (try dsimp only at hSw); go_simp; (try with_reducible rfl))
                    simp only [Act.put, List.setIfInBounds_toArray, List.set_cons_zero, List.set_cons_succ]
                    refine takeW (i := 6) (v := ?_) rfl (by kernel_rfl) (by kernel_rfl) (by kernel_rfl) (fun _ _ _ h => h) (by rfl) (by assumption) ?_ ?_
                    rotate_left
                    · (intro w9 hSw; (try dsimp only at hSw); go_simp; (try with_reducible rfl))
                    simp only [Act.put, List.setIfInBounds_toArray, List.set_cons_zero, List.set_cons_succ]
                    refine takeW (i := 7) (v := ?_) rfl (by kernel_rfl) (by kernel_rfl) (by kernel_rfl) (fun _ _ _ h => h) (by rfl) (by assumption) ?_ ?_
                    rotate_left
                    · (intro w9 hSw; (try dsimp only at hSw); go_simp; (try with_reducible rfl))
                    simp only [Act.put, List.setIfInBounds_toArray, List.set_cons_zero, List.set_cons_succ]
                    refine takeW (i := 8) (v := ?_) rfl (by kernel_rfl) (by kernel_rfl) (by kernel_rfl) (fun _ _ _ h => h) (by rfl) (by assumption) ?_ ?_
                    rotate_left
                    · (intro w9 hSw; (try dsimp only at hSw); go_simp; (try with_reducible rfl))
                    simp only [Act.put, List.setIfInBounds_toArray, List.set_cons_zero, List.set_cons_succ]
                    refine takeW (i := 9) (v := ?_) rfl (by kernel_rfl) (by kernel_rfl) (by kernel_rfl) (fun _ _ _ h => h) (by rfl) (by assumption) ?_ ?_
                    rotate_left
                    · (intro w9 hSw; (try dsimp only at hSw); go_simp; (try with_reducible rfl))
                    simp only [Act.put, List.setIfInBounds_toArray, List.set_cons_zero, List.set_cons_succ]
                    refine takeW (i := 10) (v := ?_) rfl (by kernel_rfl) (by kernel_rfl) (by kernel_rfl) (fun _ _ _ h => h) (by rfl) (by assumption) ?_ ?_
                    rotate_left
                    · (intro w9 hSw; (try dsimp only at hSw); go_simp; (try with_reducible rfl))
                    simp only [Act.put, List.setIfInBounds_toArray, List.set_cons_zero, List.set_cons_succ]
                    refine takeW (i := 11) (v := ?_) rfl (by kernel_rfl) (by kernel_rfl) (by kernel_rfl) (fun _ _ _ h => h) (by rfl) (by assumption) ?_ ?_
                    rotate_left
                    · (intro w9 hSw; (try dsimp only at hSw); go_simp; (try with_reducible rfl))
                    simp only [Act.put, List.setIfInBounds_toArray, List.set_cons_zero, List.set_cons_succ]
                    refine takeW (i := 12) (v := ?_) rfl (by kernel_rfl) (by kernel_rfl) (by kernel_rfl) (fun _ _ _ h => h) (by rfl) (by assumption) ?_ ?_
                    rotate_left
                    · (intro w9 hSw; (try dsimp only at hSw); go_simp; (try with_reducible rfl))
                    simp only [Act.put, List.setIfInBounds_toArray, List.set_cons_zero, List.set_cons_succ]
                    refine takeW (i := 13) (v := ?_) rfl (by kernel_rfl) (by kernel_rfl) (by kernel_rfl) (fun _ _ _ h => h) (by rfl) (by assumption) ?_ ?_
                    rotate_left
                    · (intro w9 hSw; (try dsimp only at hSw); go_simp; (try with_reducible rfl))
                    simp only [Act.put, List.setIfInBounds_toArray, List.set_cons_zero, List.set_cons_succ]
                    refine takeW (i := 14) (v := ?_) rfl (by kernel_rfl) (by kernel_rfl) (by kernel_rfl) (fun _ _ _ h => h) (by rfl) (by assumption) ?_ ?_
                    rotate_left
                    · (intro w9 hSw; (try dsimp only at hSw); go_simp; (try with_reducible rfl))
                    simp only [Act.put, List.setIfInBounds_toArray, List.set_cons_zero, List.set_cons_succ]
                    refine takeW (i := 15) (v := ?_) rfl (by kernel_rfl) (by kernel_rfl) (by kernel_rfl) (fun _ _ _ h => h) (by rfl) (by assumption) ?_ ?_
                    rotate_left
                    · (intro w9 hSw; (try dsimp only at hSw); go_simp; (try with_reducible rfl))
                    simp only [Act.put, List.setIfInBounds_toArray, List.set_cons_zero, List.set_cons_succ]
                    refine takeW (i := 16) (v := ?_) rfl (by kernel_rfl) (by kernel_rfl) (by kernel_rfl) (fun _ _ _ h => h) (by rfl) (by assumption) ?_ ?_
                    rotate_left
                    · (intro w9 hSw; (try dsimp only at hSw); go_simp; (try with_reducible rfl))
                    simp only [Act.put, List.setIfInBounds_toArray, List.set_cons_zero, List.set_cons_succ]
                    refine takeW (i := 17) (v := ?_) rfl (by kernel_rfl) (by kernel_rfl) (by kernel_rfl) (fun _ _ _ h => h) (by rfl) (by assumption) ?_ ?_
                    rotate_left
                    · (intro w9 hSw; (try dsimp only at hSw); go_simp; (try with_reducible rfl))
                    simp only [Act.put, List.setIfInBounds_toArray, List.set_cons_zero, List.set_cons_succ]
                    refine takeW (i := 18) (v := ?_) rfl (by kernel_rfl) (by kernel_rfl) (by kernel_rfl) (fun _ _ _ h => h) (by rfl) (by assumption) ?_ ?_
                    rotate_left
                    · (intro w9 hSw; (try dsimp only at hSw); go_simp; (try with_reducible rfl))
                    simp only [Act.put, List.setIfInBounds_toArray, List.set_cons_zero, List.set_cons_succ]
                    refine takeW (i := 19) (v := ?_) rfl (by kernel_rfl) (by kernel_rfl) (by kernel_rfl) (fun _ _ _ h => h) (by rfl) (by assumption) ?_ ?_
                    rotate_left
                    · (intro w9 hSw; (try dsimp only at hSw); go_simp; (try with_reducible rfl))
                    simp only [Act.put, List.setIfInBounds_toArray, List.set_cons_zero, List.set_cons_succ]
                    refine takeW (i := 20) (v := ?_) rfl (by kernel_rfl) (by kernel_rfl) (by kernel_rfl) (fun _ _ _ h => h) (by rfl) (by assumption) ?_ ?_
                    rotate_left
                    · (intro w9 hSw; (try dsimp only at hSw); go_simp; (try with_reducible rfl))
                    simp only [Act.put, List.setIfInBounds_toArray, List.set_cons_zero, List.set_cons_succ]
                    refine takeW (i := 21) (v := ?_) rfl (by kernel_rfl) (by kernel_rfl) (by kernel_rfl) (fun _ _ _ h => h) (by rfl) (by assumption) ?_ ?_
                    rotate_left
                    · (intro w9 hSw; (try dsimp only at hSw); go_simp; (try with_reducible rfl))
                    simp only [Act.put, List.setIfInBounds_toArray, List.set_cons_zero, List.set_cons_succ]
                    refine takeW (i := 22) (v := ?_) rfl (by kernel_rfl) (by kernel_rfl) (by kernel_rfl) (fun _ _ _ h => h) (by rfl) (by assumption) ?_ ?_
                    rotate_left
                    · (intro w9 hSw; (try dsimp only at hSw); go_simp; (try with_reducible rfl))
                    simp only [Act.put, List.setIfInBounds_toArray, List.set_cons_zero, List.set_cons_succ]
                    refine takeW (i := 23) (v := ?_) rfl (by kernel_rfl) (by kernel_rfl) (by kernel_rfl) (fun _ _ _ h => h) (by rfl) (by assumption) ?_ ?_
                    rotate_left
                    · (intro w9 hSw; (try dsimp only at hSw); go_simp; (try with_reducible rfl))
                    simp only [Act.put, List.setIfInBounds_toArray, List.set_cons_zero, List.set_cons_succ]
                    refine wpAnyH_done (by kernel_rfl) ?_ _
                    go_wp2
                    go_ret
                    exact ⟨ret_bool HE.out.symm, HB.out.tr hb3.dr⟩
                  · have HE := Lib.hid (covIn_succ HCO.out hlt hlt' hlo (.inr hq2))
                    go_upto_region 11 with fail
                    refine wp_region_held_drew (S := (fun w' => w'.cell? ⟨w.heap.size, 1, none⟩ = some (.slice (some ⟨b, off, none⟩) p.args.length pc) ∧ w'.cell? ⟨w.heap.size + 1, 1, none⟩ = some (.slice (some ⟨b', off', none⟩) q.args.length qc) ∧ w'.cell? ⟨b, off + k, none⟩ = some (.string p.args[k]) ∧ w'.cell? ⟨b', off' + k, none⟩ = some (.string q.args[k]) ∧ w'.cell? ⟨b, off + o, none⟩ = some (.string p.args[o]) ∧ w'.cell? ⟨b', off' + o, none⟩ = some (.string q.args[o]) ∧ Up wr w')) (by kernel_rfl) (by (try dsimp only); exact ⟨k1, l1, c0, d0, c1, d1, (Up.rf _).dr⟩) (fun hHeld => ?_)
                    refine takeW (i := 0) (v := ?_) rfl (by kernel_rfl) (by kernel_rfl) (by kernel_rfl) (fun _ _ _ h => h) (by rfl) (by assumption) ?_ ?_
                    rotate_left
                    · (intro w9 hSw; (try dsimp only at hSw); go_simp; (try with_reducible rfl))
                    simp only [Act.put, List.setIfInBounds_toArray, List.set_cons_zero, List.set_cons_succ]
                    refine takeW (i := 1) (v := ?_) rfl (by kernel_rfl) (by kernel_rfl) (by kernel_rfl) (fun _ _ _ h => h) (by rfl) (by assumption) ?_ ?_
                    rotate_left
                    · (intro w9 hSw; (try dsimp only at hSw); go_simp; (try with_reducible rfl))
                    simp only [Act.put, List.setIfInBounds_toArray, List.set_cons_zero, List.set_cons_succ]
                    refine takeW (i := 2) (v := ?_) rfl (by kernel_rfl) (by kernel_rfl) (by kernel_rfl) (fun _ _ _ h => h) (by rfl) (by assumption) ?_ ?_
                    rotate_left
                    · (intro w9 hSw; (try dsimp only at hSw); go_simp; (try with_reducible rfl))
                    simp only [Act.put, List.setIfInBounds_toArray, List.set_cons_zero, List.set_cons_succ]
                    refine takeW (i := 3) (v := ?_) rfl (by kernel_rfl) (by kernel_rfl) (by kernel_rfl) (fun _ _ _ h => h) (by rfl) (by assumption) ?_ ?_
                    rotate_left
                    · (intro w9 hSw; (try dsimp only at hSw); go_simp; (try with_reducible rfl))
                    simp only [Act.put, List.setIfInBounds_toArray, List.set_cons_zero, List.set_cons_succ]
                    refine takeW (i := 4) (v := ?_) rfl (by kernel_rfl) (by kernel_rfl) (by kernel_rfl) (fun _ _ _ h => h) (by rfl) (by assumption) ?_ ?_
                    rotate_left
                    · (intro w9 hSw; (try dsimp only at hSw); go_simp; (try with_reducible rfl))
                    simp only [Act.put, List.setIfInBounds_toArray, List.set_cons_zero, List.set_cons_succ]
                    refine takeW (i := 5) (v := ?_) rfl (by kernel_rfl) (by kernel_rfl) (by kernel_rfl) (fun _ _ _ h => h) (by rfl) (by assumption) ?_ ?_
                    rotate_left
                    · (intro w9 hSw; (try dsimp only at hSw); go_simp; (try with_reducible rfl))
                    simp only [Act.put, List.setIfInBounds_toArray, List.set_cons_zero, List.set_cons_succ]
                    refine takeW (i := 6) (v := ?_) rfl (by kernel_rfl) (by kernel_rfl) (by kernel_rfl) (fun _ _ _ h => h) (by rfl) (by assumption) ?_ ?_
                    rotate_left
                    · (intro w9 hSw; (try dsimp only at hSw); go_simp; (try with_reducible rfl))
                    simp only [Act.put, List.setIfInBounds_toArray, List.set_cons_zero, List.set_cons_succ]
                    refine takeW (i := 7) (v := ?_) rfl (by kernel_rfl) (by kernel_rfl) (by kernel_rfl) (fun _ _ _ h => h) (by rfl) (by assumption) ?_ ?_
                    rotate_left
                    · (intro w9 hSw; (try dsimp only at hSw); go_simp; (try with_reducible rfl))
                    simp only [Act.put, List.setIfInBounds_toArray, List.set_cons_zero, List.set_cons_succ]
                    refine takeW (i := 8) (v := ?_) rfl (by kernel_rfl) (by kernel_rfl) (by kernel_rfl) (fun _ _ _ h => h) (by rfl) (by assumption) ?_ ?_
                    rotate_left
                    · (intro w9 hSw; (try dsimp only at hSw); go_simp; (try with_reducible rfl))
                    simp only [Act.put, List.setIfInBounds_toArray, List.set_cons_zero, List.set_cons_succ]
                    refine takeW (i := 9) (v := ?_) rfl (by kernel_rfl) (by kernel_rfl) (by kernel_rfl) (fun _ _ _ h => h) (by rfl) (by assumption) ?_ ?_
                    rotate_left
                    · (intro w9 hSw; (try dsimp only at hSw); go_simp; (try with_reducible rfl))
                    simp only [Act.put, List.setIfInBounds_toArray, List.set_cons_zero, List.set_cons_succ]
                    refine takeW (i := 10) (v := ?_) rfl (by kernel_rfl) (by kernel_rfl) (by kernel_rfl) (fun _ _ _ h => h) (by rfl) (by assumption) ?_ ?_
                    rotate_left
                    · (intro w9 hSw; (try dsimp only at hSw); go_simp; (try with_reducible rfl))
                    simp only [Act.put, List.setIfInBounds_toArray, List.set_cons_zero, List.set_cons_succ]
                    refine takeW (i := 11) (v := ?_) rfl (by kernel_rfl) (by kernel_rfl) (by kernel_rfl) (fun _ _ _ h => h) (by rfl) (by assumption) ?_ ?_
                    rotate_left
                    · (intro w9 hSw; (try dsimp only at hSw); go_simp; (try with_reducible rfl))
                    simp only [Act.put, List.setIfInBounds_toArray, List.set_cons_zero, List.set_cons_succ]
                    refine takeW (i := 12) (v := ?_) rfl (by kernel_rfl) (by kernel_rfl) (by kernel_rfl) (fun _ _ _ h => h) (by rfl) (by assumption) ?_ ?_
                    rotate_left
                    · (intro w9 hSw; (try dsimp only at hSw); go_simp; (try with_reducible rfl))
                    simp only [Act.put, List.setIfInBounds_toArray, List.set_cons_zero, List.set_cons_succ]
                    refine takeW (i := 13) (v := ?_) rfl (by kernel_rfl) (by kernel_rfl) (by kernel_rfl) (fun _ _ _ h => h) (by rfl) (by assumption) ?_ ?_
                    rotate_left
                    · (intro w9 hSw; (try dsimp only at hSw); go_simp; (try with_reducible rfl))
                    simp only [Act.put, List.setIfInBounds_toArray, List.set_cons_zero, List.set_cons_succ]
                    refine takeW (i := 14) (v := ?_) rfl (by kernel_rfl) (by kernel_rfl) (by kernel_rfl) (fun _ _ _ h => h) (by rfl) (by assumption) ?_ ?_
                    rotate_left
                    · (intro w9 hSw; (try dsimp only at hSw); go_simp; (try with_reducible rfl))
                    simp only [Act.put, List.setIfInBounds_toArray, List.set_cons_zero, List.set_cons_succ]
                    refine takeW (i := 15) (v := ?_) rfl (by kernel_rfl) (by kernel_rfl) (by kernel_rfl) (fun _ _ _ h => h) (by rfl) (by assumption) ?_ ?_
                    rotate_left
                    · (intro w9 hSw; (try dsimp only at hSw); go_simp; (try with_reducible rfl))
                    simp only [Act.put, List.setIfInBounds_toArray, List.set_cons_zero, List.set_cons_succ]
                    refine takeW (i := 16) (v := ?_) rfl (by kernel_rfl) (by kernel_rfl) (by kernel_rfl) (fun _ _ _ h => h) (by rfl) (by assumption) ?_ ?_
                    rotate_left
                    · (intro w9 hSw; (try dsimp only at hSw); go_simp; (try with_reducible rfl))
                    simp only [Act.put, List.setIfInBounds_toArray, List.set_cons_zero, List.set_cons_succ]
                    refine takeW (i := 17) (v := ?_) rfl (by kernel_rfl) (by kernel_rfl) (by kernel_rfl) (fun _ _ _ h => h) (by rfl) (by assumption) ?_ ?_
                    rotate_left
                    · (intro w9 hSw; (try dsimp only at hSw); go_simp; (try with_reducible rfl))
                    simp only [Act.put, List.setIfInBounds_toArray, List.set_cons_zero, List.set_cons_succ]
                    refine takeW (i := 18) (v := ?_) rfl (by kernel_rfl) (by kernel_rfl) (by kernel_rfl) (fun _ _ _ h => h) (by rfl) (by assumption) ?_ ?_
                    rotate_left
                    · (intro w9 hSw; (try dsimp only at hSw); go_simp; (try with_reducible rfl))
                    simp only [Act.put, List.setIfInBounds_toArray, List.set_cons_zero, List.set_cons_succ]
                    refine takeW (i := 19) (v := ?_) rfl (by kernel_rfl) (by kernel_rfl) (by kernel_rfl) (fun _ _ _ h => h) (by rfl) (by assumption) ?_ ?_
                    rotate_left
                    · (intro w9 hSw; (try dsimp only at hSw); go_simp; (try with_reducible rfl))
                    simp only [Act.put, List.setIfInBounds_toArray, List.set_cons_zero, List.set_cons_succ]
                    refine takeW (i := 20) (v := ?_) rfl (by kernel_rfl) (by kernel_rfl) (by kernel_rfl) (fun _ _ _ h => h) (by rfl) (by assumption) ?_ ?_
                    rotate_left
                    · (intro w9 hSw; (try dsimp only at hSw); go_simp; (try with_reducible rfl))
                    simp only [Act.put, List.setIfInBounds_toArray, List.set_cons_zero, List.set_cons_succ]
                    refine takeW (i := 21) (v := ?_) rfl (by kernel_rfl) (by kernel_rfl) (by kernel_rfl) (fun _ _ _ h => h) (by rfl) (by assumption) ?_ ?_
                    rotate_left
                    · (intro w9 hSw; (try dsimp only at hSw); go_simp; (try with_reducible rfl))
                    simp only [Act.put, List.setIfInBounds_toArray, List.set_cons_zero, List.set_cons_succ]
                    refine takeW (i := 22) (v := ?_) rfl (by kernel_rfl) (by kernel_rfl) (by kernel_rfl) (fun _ _ _ h => h) (by rfl) (by assumption) ?_ ?_
                    rotate_left
                    · (intro w9 hSw; (try dsimp only at hSw); go_simp; (try with_reducible rfl))
                    simp only [Act.put, List.setIfInBounds_toArray, List.set_cons_zero, List.set_cons_succ]
                    refine takeW (i := 23) (v := ?_) rfl (by kernel_rfl) (by kernel_rfl) (by kernel_rfl) (fun _ _ _ h => h) (by rfl) (by assumption) ?_ ?_
                    rotate_left
                    · (intro w9 hSw; (try dsimp only at hSw); go_simp; (try with_reducible rfl))
                    simp only [Act.put, List.setIfInBounds_toArray, List.set_cons_zero, List.set_cons_succ]
                    refine wpAnyH_done (by kernel_rfl) ?_ _
                    go_wp2
                    exact ⟨⟨o+1, by omega, by go_num, hb2.dr, HE.out⟩, by simp [intOf]; omega⟩
              · obtain rfl : o = k := by omega
                have HC' := Lib.hid (covTo_succ HC.out HCO.out)
                have hlo9 : ¬ (o : Int) < (o : Int) := by omega
                go_wp2
                exact ⟨⟨o+1, by omega, by go_num, hb3, HC'.out⟩, by simp [intOf]; omega⟩
      · have HE := Lib.hid (HT.out (covTo_end HC.out (by omega)))
        go_wp2
        go_ret
        exact ⟨ret_bool HE.out.symm, HB.out.tr hb⟩
  · have HE := Lib.hid (cov_4 (p := p) (q := q) (by omega))
    have h4b : ((p.args.length : Int) == (q.args.length : Int)) = false := by simpa using h4
    go_enter Try.func8, Try.ntmps8
    go_wp2_with fail
    generalize ((w.alloc (.cells #[.string p.rel, .slice pa p.args.length pc] 27)).alloc (.cells #[.string q.rel, .slice qa q.args.length qc] 27)) = W at *
    refine (cIsPatternS HP.out zp).mono ?_
    rintro e w1 ⟨rfl, b1⟩
    rw [h1]
    have k0 := (KP.out.up b1).cell0; have k1 := (KP.out.up b1).cell1; have l0 := (KQ.out.up b1).cell0; have l1 := (KQ.out.up b1).cell1
    go_wp2_with fail
    clear k0 k1 l0 l1
    refine (cIsPatternS (HQ.out.up b1) zq).mono ?_
    rintro e w2 ⟨rfl, b2⟩
    rw [h2]
    have b12 := Up.tr b1 b2
    clear b1 b2
    have k0 := (KP.out.up b12).cell0; have k1 := (KP.out.up b12).cell1; have l0 := (KQ.out.up b12).cell0; have l1 := (KQ.out.up b12).cell1
    go_wp2_with fail
    clear k0 k1 l0 l1
    have HB := Lib.hid (HB.out.tr b12)
    clear b12
    go_wp2
    go_ret
    exact ⟨ret_bool HE.out.symm, HB.out⟩
end Go.Proofs.Ytpkphijfncbbiaa
