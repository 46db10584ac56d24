/- The walk of the law FnFactOrder: for every input the call returns true and nothing that was there has turned. -/
import Derived.Deep.DeepCutAuto
import Derived.Test.YtgpgeegpaaoakaaDoorDr2
import Derived.Test.YtgpgeegpaaoakaaDoorDr8
import Derived.Test.YtgpgeegpaaoakaaDoorDr9
import Derived.Test.YtgpgeegpaaoakaaDoorPlS
import Derived.Test.YtgpgeegpaaoakaaDoorRg
namespace Go.Proofs.YtgpgeegpaaoakaaDoor
open Go.RowKit
attribute [local go_sem ↓] Go.wp_at_zero Go.wp_at_succ
set_option linter.unusedVariables false
set_option linter.unusedSimpArgs false
theorem sf_one {w : World} {lo hi g n c : Nat} {r : ByteArray} {a : Option Addr} {f : FactV} {t : TypeId} (hB : Blk w g t #[.string r, .slice a n c]) (hf : Ob AF w lo hi (.agg #[.string r, .slice a n c]) f) :
    Ob SF w 0 w.heap.size (.slice (some ⟨g, 0, none⟩) 1 1) [f] := by
  obtain ⟨⟨cs, e1, av, e2, ht⟩, hh⟩ := hf
  have e3 : cs = [.string r, .slice a n c] := by
    have := congrArg (fun v => match v with | .agg x => x.toList | _ => []) e1
    simpa using this.symm
  refine ⟨⟨some ⟨g, 0, none⟩, 1, rfl, Nat.le_refl _, by simp [maxLen], fun _ => ⟨g, 0, rfl, Nat.zero_le _, hB.lt, fun i hi' => ?_⟩⟩, Nat.le_refl _⟩
  obtain rfl : i = 0 := by simpa using hi'
  refine ⟨cs, by rw [e3]; rfl, fun j hj => ?_, av, e2, ht.mono (Nat.zero_le _) hh⟩
  rw [e3]
  match j, hj with
  | 0, _ => exact hB.cell 0
  | 1, _ => exact hB.cell 1
theorem cmpK {v u : Value} {f g : FactV} {r : Int} {lo hi lo' hi' : Nat} {w : World} (hT : Tabs w) (h : Ob AF w lo hi v f) (h' : Ob AF w lo' hi' u g) (hz : fsz f ≤ 59) (hz' : fsz g ≤ 59) (hr : cmpF f g = r) :
    Calls Tryd.prog 7 #[v, u] w fun e w' => e = .returned (.int .i64 r) ∧ Up w w' := by
  subst hr
  exact cCmpFacts hT h h' (by omega) (by omega)
theorem sameK1 {v u : Value} {f g : FactV} {r : Bool} {lo hi lo' hi' : Nat} {w : World} (h : Ob SF w lo hi v [f]) (h' : Ob SF w lo' hi' u [g]) (hr : sameFB f g = r) :
    Calls Tryd.prog 8 #[v, u] w fun e w' => e = .returned (.bool r) ∧ Up w w' := by
  subst hr
  have := cSameFactsS h h'
  rwa [sameFs_one] at this
set_option maxHeartbeats 40000000 in
set_option maxRecDepth 100000 in
theorem walk_FnFactOrder (w : World) (v0 : Value) (x0 : List Int) (m0 : BX w 0 w.heap.size v0 x0) (o0 : ∀ n ∈ x0, okB n) (H_Tabs : Tabs w) :
    Calls Tryd.prog 3 #[v0] w fun e w' => e = .returned (.bool true) ∧ Below w.heap.size w w' := by
  have HV : Hid (Ob BX w 0 w.heap.size v0 x0) := ⟨m0, Nat.le_refl _⟩
  have HT := Lib.hid H_Tabs
  have HK := Lib.hid o0
  clear m0 H_Tabs o0
  go_enter Tryd.func3, Tryd.ntmps3
  go_wp2_with fail
  refine (cBig HV.out).mono ?_
  rintro e w1 ⟨rfl, rfl⟩
  by_cases hbig : (4096 : Int) < x0.length
  · have hd : decide ((4096 : Int) < x0.length) = true := decide_eq_true hbig
    rw [hd]
    go_wp2
    go_ret
    exact ⟨rfl, Below.refl _ _⟩
  have hd : decide ((4096 : Int) < x0.length) = false := decide_eq_false hbig
  have hl : x0.length ≤ 4096 := by omega
  rw [hd]
  clear hd hbig
  go_wp2_with fail
  refine (cDrawCF HV.out HK.out hl).mono ?_
  rintro e w1 ⟨v1, u1, rfl, a, b, hoa, hob, hza, hzb, b1⟩
  obtain ⟨aa, ac, rfl⟩ := hoa.1.form
  obtain ⟨ba, bc, rfl⟩ := hob.1.form
  have hal : Up w1 ((w1.alloc (.cells #[.string a.rel, .slice aa a.args.length ac] 26)).alloc (.cells #[.string b.rel, .slice ba b.args.length bc] 26)) := (Up.al1 _ _).al _
  have KA1 := Lib.hid (show Blk ((w1.alloc (.cells #[.string a.rel, .slice aa a.args.length ac] 26)).alloc (.cells #[.string b.rel, .slice ba b.args.length bc] 26)) w1.heap.size 26 #[.string a.rel, .slice aa a.args.length ac] from (Blk.new w1 26 #[.string a.rel, .slice aa a.args.length ac]).alloc _)
  have KB1 := Lib.hid (show Blk ((w1.alloc (.cells #[.string a.rel, .slice aa a.args.length ac] 26)).alloc (.cells #[.string b.rel, .slice ba b.args.length bc] 26)) (w1.heap.size + 1) 26 #[.string b.rel, .slice ba b.args.length bc] from by have := Blk.new (w1.alloc (.cells #[.string a.rel, .slice aa a.args.length ac] 26)) 26 #[.string b.rel, .slice ba b.args.length bc]; simpa using this)
  have HA1 := Lib.hid (hoa.up hal)
  have HB1 := Lib.hid (hob.up hal)
  have HU1 := Lib.hid (b1.tr hal)
  have HT1 := Lib.hid (HT.out.up HU1.out)
  have HV1 := Lib.hid (HV.out.up HU1.out)
  clear hoa hob b1 hal HV HT
  go_upto_region 4 with fail
  generalize w1.heap.size = p at *
  generalize ((w1.alloc (.cells #[.string a.rel, .slice aa a.args.length ac] 26)).alloc (.cells #[.string b.rel, .slice ba b.args.length bc] 26)) = W1 at *
  go_wp2_with fail
  refine (cDrawFind HV1.out HK.out hl).mono ?_
  rintro e w2 ⟨v2, u2, rfl, M, d, hom, hod, hms, hzd, b2⟩
  obtain ⟨da, dc, rfl⟩ := hod.1.form
  obtain ⟨ma, mc, rfl⟩ := hom.1.form
  have hal := b2.al (.cells #[.string d.rel, .slice da d.args.length dc] 26)
  have KA3 := Lib.hid (KA1.out.up hal)
  have KB3 := Lib.hid (KB1.out.up hal)
  have KD3 := Lib.hid (Blk.new w2 26 #[.string d.rel, .slice da d.args.length dc])
  have HA3 := Lib.hid (HA1.out.up hal)
  have HB3 := Lib.hid (HB1.out.up hal)
  have HD3 := Lib.hid (hod.up (Up.al1 w2 (.cells #[.string d.rel, .slice da d.args.length dc] 26)))
  have HU3 := Lib.hid (HU1.out.tr hal)
  have HT3 := Lib.hid (HT1.out.up hal)
  clear hom hod hms b2 hal KA1 KB1 HA1 HB1 HU1 HT1 HV1 HK
  go_upto_region 5 with fail
  generalize w2.heap.size = q at *
  generalize (w2.alloc (.cells #[.string d.rel, .slice da d.args.length dc] 26)) = W3 at *
  go_cut [38] (fun s38 wx => s38 = .bool false ∧ Up W3 wx)
  case first =>
    have hrng := cmpF_rng a b
    have hanti := ord_F.anti a b
    have hzero := cmpF_zero a b
    generalize hab : cmpF a b = c at *
    generalize hba : cmpF b a = c2 at *
    generalize hsm : sameFB a b = sm at *
    have hall : (c = -1 ∧ c2 = 1 ∧ sm = false) ∨ (c = 0 ∧ c2 = 0 ∧ sm = true) ∨ (c = 1 ∧ c2 = -1 ∧ sm = false) := by
      obtain ⟨r1, r2⟩ := hrng
      have : c = -1 ∨ c = 0 ∨ c = 1 := by omega
      rcases this with rfl | rfl | rfl
      · exact .inl ⟨rfl, by omega, by rw [← hzero]; rfl⟩
      · exact .inr (.inl ⟨rfl, by omega, by rw [← hzero]; rfl⟩)
      · exact .inr (.inr ⟨rfl, by omega, by rw [← hzero]; rfl⟩)
    clear hrng hanti hzero
    have hdr := (Up.rf W3).dr
    rcases hall with ⟨rfl, rfl, rfl⟩ | ⟨rfl, rfl, rfl⟩ | ⟨rfl, rfl, rfl⟩
    · skip
      refine wp_region_held_drew (S := (fun w' => w'.cell? ⟨p, 0, none⟩ = some (.string a.rel) ∧ w'.cell? ⟨p, 1, none⟩ = some (.slice aa a.args.length ac) ∧ w'.cell? ⟨p + 1, 0, none⟩ = some (.string b.rel) ∧ w'.cell? ⟨p + 1, 1, none⟩ = some (.slice ba b.args.length bc) ∧ Up W3 w')) (by kernel_rfl) (by (try dsimp only); exact ⟨(KA3.out.up hdr).cell 0, (KA3.out.up hdr).cell 1, (KB3.out.up hdr).cell 0, (KB3.out.up hdr).cell 1, hdr⟩) (fun hHeld => ?_)
      refine takeW (i := 0) (v := ?_) rfl (by kernel_rfl) (by kernel_rfl) (by kernel_rfl) (fun _ _ _ h => h) (by rfl) (by assumption) ?_ ?_
      rotate_left
      · (intro w9 hSw; (try dsimp only at hSw); go_simp; (try with_reducible rfl))
      simp only [Act.put, List.setIfInBounds_toArray, List.set_cons_zero, List.set_cons_succ]
      refine takeW (i := 1) (v := ?_) rfl (by kernel_rfl) (by kernel_rfl) (by kernel_rfl) (fun _ _ _ h => h) (by rfl) (by assumption) ?_ ?_
      rotate_left
      · (intro w9 hSw; (try dsimp only at hSw); go_simp; (try with_reducible rfl))
      simp only [Act.put, List.setIfInBounds_toArray, List.set_cons_zero, List.set_cons_succ]
      refine takeW (i := 3) (v := ?_) rfl (by kernel_rfl) (by kernel_rfl) (by kernel_rfl) (fun _ _ _ h => h) (by rfl) (by assumption) ?_ ?_
      rotate_left
      · (intro w9 hSw; (try dsimp only at hSw); go_simp; (try with_reducible rfl))
      simp only [Act.put, List.setIfInBounds_toArray, List.set_cons_zero, List.set_cons_succ]
      refine takeW (i := 4) (v := ?_) rfl (by kernel_rfl) (by kernel_rfl) (by kernel_rfl) (fun _ _ _ h => h) (by rfl) (by assumption) ?_ ?_
      rotate_left
      · (intro w9 hSw; (try dsimp only at hSw); go_simp; (try with_reducible rfl))
      simp only [Act.put, List.setIfInBounds_toArray, List.set_cons_zero, List.set_cons_succ]
      refine comeC (i := 2) rfl (by kernel_rfl) (by rfl) (fun K hK => ?_)
      go_simp
      go_at_call 7
      refine (cmpK (HT3.out.up hdr) (HA3.out.up hdr) (HB3.out.up hdr) hza hzb hab).mono ?_
      rintro e W21 ⟨rfl, b9⟩
      have u21 : Up W3 W21 := Up.tr hdr b9
      clear hHeld b9
      go_wp2_with fail
      refine hK.out _ _ (by (try dsimp only); exact ⟨(KA3.out.up u21).cell 0, (KA3.out.up u21).cell 1, (KB3.out.up u21).cell 0, (KB3.out.up u21).cell 1, u21⟩) (fun hHeld => ?_)
      clear hK K
      try simp only [Act.put, List.setIfInBounds_toArray, List.set_cons_zero, List.set_cons_succ]
      refine comeC (i := 5) rfl (by kernel_rfl) (by rfl) (fun K hK => ?_)
      go_simp
      go_at_call 7
      refine (cmpK (HT3.out.up u21) (HB3.out.up u21) (HA3.out.up u21) hzb hza hba).mono ?_
      rintro e W22 ⟨rfl, b9⟩
      have u22 : Up W3 W22 := Up.tr u21 b9
      clear hHeld b9
      go_wp2_with fail
      refine hK.out _ _ (by (try dsimp only); exact ⟨(KA3.out.up u22).cell 0, (KA3.out.up u22).cell 1, (KB3.out.up u22).cell 0, (KB3.out.up u22).cell 1, u22⟩) (fun hHeld => ?_)
      clear hK K
      try simp only [Act.put, List.setIfInBounds_toArray, List.set_cons_zero, List.set_cons_succ]
      refine takeW (i := 6) (v := ?_) rfl (by kernel_rfl) (by kernel_rfl) (by kernel_rfl) (fun _ _ _ h => h) (by rfl) (by assumption) ?_ ?_
      rotate_left
      · (intro w9 hSw; (try dsimp only at hSw); go_simp; (try with_reducible rfl))
      simp only [Act.put, List.setIfInBounds_toArray, List.set_cons_zero, List.set_cons_succ]
      refine takeW (i := 7) (v := ?_) rfl (by kernel_rfl) (by kernel_rfl) (by kernel_rfl) (fun _ _ _ h => h) (by rfl) (by assumption) ?_ ?_
      rotate_left
      · (intro w9 hSw; (try dsimp only at hSw); go_simp; (try with_reducible rfl))
      simp only [Act.put, List.setIfInBounds_toArray, List.set_cons_zero, List.set_cons_succ]
      refine takeW (i := 8) (v := ?_) rfl (by kernel_rfl) (by kernel_rfl) (by kernel_rfl) (fun _ _ _ h => h) (by rfl) (by assumption) ?_ ?_
      rotate_left
      · (intro w9 hSw; (try dsimp only at hSw); go_simp; (try with_reducible rfl))
      simp only [Act.put, List.setIfInBounds_toArray, List.set_cons_zero, List.set_cons_succ]
      refine takeW (i := 9) (v := ?_) rfl (by kernel_rfl) (by kernel_rfl) (by kernel_rfl) (fun _ _ _ h => h) (by rfl) (by assumption) ?_ ?_
      rotate_left
      · (intro w9 hSw; (try dsimp only at hSw); go_simp; (try with_reducible rfl))
      simp only [Act.put, List.setIfInBounds_toArray, List.set_cons_zero, List.set_cons_succ]
      refine takeW (i := 10) (v := ?_) rfl (by kernel_rfl) (by kernel_rfl) (by kernel_rfl) (fun _ _ _ h => h) (by rfl) (by assumption) ?_ ?_
      rotate_left
      · (intro w9 hSw; (try dsimp only at hSw); go_simp; (try with_reducible rfl))
      simp only [Act.put, List.setIfInBounds_toArray, List.set_cons_zero, List.set_cons_succ]
      refine takeW (i := 13) (v := ?_) rfl (by kernel_rfl) (by kernel_rfl) (by kernel_rfl) (fun _ _ _ h => h) (by rfl) (by assumption) ?_ ?_
      rotate_left
      · (intro w9 hSw; (try dsimp only at hSw); go_simp; (try with_reducible rfl))
      simp only [Act.put, List.setIfInBounds_toArray, List.set_cons_zero, List.set_cons_succ]
      refine takeW (i := 15) (v := ?_) rfl (by kernel_rfl) (by kernel_rfl) (by kernel_rfl) (fun _ _ _ h => h) (by rfl) (by assumption) ?_ ?_
      rotate_left
      · (intro w9 hSw; (try dsimp only at hSw); go_simp; (try with_reducible rfl))
      simp only [Act.put, List.setIfInBounds_toArray, List.set_cons_zero, List.set_cons_succ]
      refine wpAnyH_ready (rs := [11, 14, 16]) (by kernel_rfl) (by simp) ?_
      refine comeA (i := 11) rfl (by rfl) (fun K hK => ?_) ?_
      · skip
        go_simp
        go_at_call 7
        refine (cmpK (HT3.out.up u22) (HA3.out.up u22) (HB3.out.up u22) hza hzb hab).mono ?_
        rintro e W23 ⟨rfl, b9⟩
        have u23 : Up W3 W23 := Up.tr u22 b9
        clear hHeld b9
        go_wp2_with fail
        refine hK.out _ _ (by (try dsimp only); exact ⟨(KA3.out.up u23).cell 0, (KA3.out.up u23).cell 1, (KB3.out.up u23).cell 0, (KB3.out.up u23).cell 1, u23⟩) (fun hHeld => ?_)
        clear hK K
        try simp only [Act.put, List.setIfInBounds_toArray, List.set_cons_zero, List.set_cons_succ]
        refine takeW (i := 12) (v := ?_) rfl (by kernel_rfl) (by kernel_rfl) (by kernel_rfl) (fun _ _ _ h => h) (by rfl) (by assumption) ?_ ?_
        rotate_left
        · (intro w9 hSw; (try dsimp only at hSw); go_simp; (try with_reducible rfl))
        simp only [Act.put, List.setIfInBounds_toArray, List.set_cons_zero, List.set_cons_succ]
        refine wpAnyH_ready (rs := [14, 16]) (by kernel_rfl) (by simp) ?_
        refine comeA (i := 14) rfl (by rfl) (fun K hK => ?_) ?_
        · skip
          go_simp
          have u24 : Up W3 (W23.alloc (.cells #[.string a.rel, .slice aa a.args.length ac] 26)) := Up.al u23 _
          have KX := Blk.new W23 26 #[.string a.rel, .slice aa a.args.length ac]
          clear hHeld
          refine hK.out _ _ (by (try dsimp only); exact ⟨(KA3.out.up u24).cell 0, (KA3.out.up u24).cell 1, (KB3.out.up u24).cell 0, (KB3.out.up u24).cell 1, u24⟩) (fun hHeld => ?_)
          clear hK K
          try simp only [Act.put, List.setIfInBounds_toArray, List.set_cons_zero, List.set_cons_succ]
          generalize W23.alloc (.cells #[.string a.rel, .slice aa a.args.length ac] 26) = W24 at *
          refine comeC (i := 16) rfl (by kernel_rfl) (by rfl) (fun K hK => ?_)
          go_simp
          have u25 : Up W3 (W24.alloc (.cells #[.string b.rel, .slice ba b.args.length bc] 26)) := Up.al u24 _
          have KY := Blk.new W24 26 #[.string b.rel, .slice ba b.args.length bc]
          replace KX := KX.up (Up.al1 W24 (.cells #[.string b.rel, .slice ba b.args.length bc] 26))
          clear hHeld
          refine hK.out _ _ (by (try dsimp only); exact ⟨(KA3.out.up u25).cell 0, (KA3.out.up u25).cell 1, (KB3.out.up u25).cell 0, (KB3.out.up u25).cell 1, u25⟩) (fun hHeld => ?_)
          clear hK K
          try simp only [Act.put, List.setIfInBounds_toArray, List.set_cons_zero, List.set_cons_succ]
          generalize W24.alloc (.cells #[.string b.rel, .slice ba b.args.length bc] 26) = W25 at *
          refine comeC (i := 17) rfl (by kernel_rfl) (by rfl) (fun K hK => ?_)
          go_simp
          go_at_call 8
          refine (sameK1 (sf_one KX (HA3.out.up u25)) (sf_one KY (HB3.out.up u25)) hsm).mono ?_
          rintro e W26 ⟨rfl, b9⟩
          have u26 : Up W3 W26 := Up.tr u25 b9
          clear hHeld b9
          go_wp2_with fail
          refine hK.out _ _ (by (try dsimp only); exact ⟨(KA3.out.up u26).cell 0, (KA3.out.up u26).cell 1, (KB3.out.up u26).cell 0, (KB3.out.up u26).cell 1, u26⟩) (fun hHeld => ?_)
          clear hK K
          try simp only [Act.put, List.setIfInBounds_toArray, List.set_cons_zero, List.set_cons_succ]
          refine takeW (i := 18) (v := ?_) rfl (by kernel_rfl) (by kernel_rfl) (by kernel_rfl) (fun _ _ _ h => h) (by rfl) (by assumption) ?_ ?_
          rotate_left
          · (intro w9 hSw; (try dsimp only at hSw); go_simp; (try with_reducible rfl))
          simp only [Act.put, List.setIfInBounds_toArray, List.set_cons_zero, List.set_cons_succ]
          refine takeW (i := 19) (v := ?_) rfl (by kernel_rfl) (by kernel_rfl) (by kernel_rfl) (fun _ _ _ h => h) (by rfl) (by assumption) ?_ ?_
          rotate_left
          · (intro w9 hSw; (try dsimp only at hSw); go_simp; (try with_reducible rfl))
          simp only [Act.put, List.setIfInBounds_toArray, List.set_cons_zero, List.set_cons_succ]
          refine wpAnyH_done (by kernel_rfl) ?_ _
          go_wp2_with fail
          go_meet
          case rel => exact ⟨rfl, u26⟩
        refine comeA (i := 16) rfl (by rfl) (fun K hK => ?_) ?_
        · skip
          go_simp
          have u27 : Up W3 (W23.alloc (.cells #[.string b.rel, .slice ba b.args.length bc] 26)) := Up.al u23 _
          have KY := Blk.new W23 26 #[.string b.rel, .slice ba b.args.length bc]
          clear hHeld
          refine hK.out _ _ (by (try dsimp only); exact ⟨(KA3.out.up u27).cell 0, (KA3.out.up u27).cell 1, (KB3.out.up u27).cell 0, (KB3.out.up u27).cell 1, u27⟩) (fun hHeld => ?_)
          clear hK K
          try simp only [Act.put, List.setIfInBounds_toArray, List.set_cons_zero, List.set_cons_succ]
          generalize W23.alloc (.cells #[.string b.rel, .slice ba b.args.length bc] 26) = W27 at *
          refine comeC (i := 14) rfl (by kernel_rfl) (by rfl) (fun K hK => ?_)
          go_simp
          have u28 : Up W3 (W27.alloc (.cells #[.string a.rel, .slice aa a.args.length ac] 26)) := Up.al u27 _
          have KX := Blk.new W27 26 #[.string a.rel, .slice aa a.args.length ac]
          replace KY := KY.up (Up.al1 W27 (.cells #[.string a.rel, .slice aa a.args.length ac] 26))
          clear hHeld
          refine hK.out _ _ (by (try dsimp only); exact ⟨(KA3.out.up u28).cell 0, (KA3.out.up u28).cell 1, (KB3.out.up u28).cell 0, (KB3.out.up u28).cell 1, u28⟩) (fun hHeld => ?_)
          clear hK K
          try simp only [Act.put, List.setIfInBounds_toArray, List.set_cons_zero, List.set_cons_succ]
          generalize W27.alloc (.cells #[.string a.rel, .slice aa a.args.length ac] 26) = W28 at *
          refine comeC (i := 17) rfl (by kernel_rfl) (by rfl) (fun K hK => ?_)
          go_simp
          go_at_call 8
          refine (sameK1 (sf_one KX (HA3.out.up u28)) (sf_one KY (HB3.out.up u28)) hsm).mono ?_
          rintro e W29 ⟨rfl, b9⟩
          have u29 : Up W3 W29 := Up.tr u28 b9
          clear hHeld b9
          go_wp2_with fail
          refine hK.out _ _ (by (try dsimp only); exact ⟨(KA3.out.up u29).cell 0, (KA3.out.up u29).cell 1, (KB3.out.up u29).cell 0, (KB3.out.up u29).cell 1, u29⟩) (fun hHeld => ?_)
          clear hK K
          try simp only [Act.put, List.setIfInBounds_toArray, List.set_cons_zero, List.set_cons_succ]
          refine takeW (i := 18) (v := ?_) rfl (by kernel_rfl) (by kernel_rfl) (by kernel_rfl) (fun _ _ _ h => h) (by rfl) (by assumption) ?_ ?_
          rotate_left
          · (intro w9 hSw; (try dsimp only at hSw); go_simp; (try with_reducible rfl))
          simp only [Act.put, List.setIfInBounds_toArray, List.set_cons_zero, List.set_cons_succ]
          refine takeW (i := 19) (v := ?_) rfl (by kernel_rfl) (by kernel_rfl) (by kernel_rfl) (fun _ _ _ h => h) (by rfl) (by assumption) ?_ ?_
          rotate_left
          · (intro w9 hSw; (try dsimp only at hSw); go_simp; (try with_reducible rfl))
          simp only [Act.put, List.setIfInBounds_toArray, List.set_cons_zero, List.set_cons_succ]
          refine wpAnyH_done (by kernel_rfl) ?_ _
          go_wp2_with fail
          go_meet
          case rel => exact ⟨rfl, u29⟩
        exact AllReadyH.nil
      refine comeA (i := 14) rfl (by rfl) (fun K hK => ?_) ?_
      · skip
        go_simp
        have u30 : Up W3 (W22.alloc (.cells #[.string a.rel, .slice aa a.args.length ac] 26)) := Up.al u22 _
        have KX := Blk.new W22 26 #[.string a.rel, .slice aa a.args.length ac]
        clear hHeld
        refine hK.out _ _ (by (try dsimp only); exact ⟨(KA3.out.up u30).cell 0, (KA3.out.up u30).cell 1, (KB3.out.up u30).cell 0, (KB3.out.up u30).cell 1, u30⟩) (fun hHeld => ?_)
        clear hK K
        try simp only [Act.put, List.setIfInBounds_toArray, List.set_cons_zero, List.set_cons_succ]
        generalize W22.alloc (.cells #[.string a.rel, .slice aa a.args.length ac] 26) = W30 at *
        refine wpAnyH_ready (rs := [11, 16]) (by kernel_rfl) (by simp) ?_
        refine comeA (i := 11) rfl (by rfl) (fun K hK => ?_) ?_
        · skip
          go_simp
          go_at_call 7
          refine (cmpK (HT3.out.up u30) (HA3.out.up u30) (HB3.out.up u30) hza hzb hab).mono ?_
          rintro e W31 ⟨rfl, b9⟩
          have u31 : Up W3 W31 := Up.tr u30 b9
          replace KX := KX.up b9
          clear hHeld b9
          go_wp2_with fail
          refine hK.out _ _ (by (try dsimp only); exact ⟨(KA3.out.up u31).cell 0, (KA3.out.up u31).cell 1, (KB3.out.up u31).cell 0, (KB3.out.up u31).cell 1, u31⟩) (fun hHeld => ?_)
          clear hK K
          try simp only [Act.put, List.setIfInBounds_toArray, List.set_cons_zero, List.set_cons_succ]
          refine takeW (i := 12) (v := ?_) rfl (by kernel_rfl) (by kernel_rfl) (by kernel_rfl) (fun _ _ _ h => h) (by rfl) (by assumption) ?_ ?_
          rotate_left
          · (intro w9 hSw; (try dsimp only at hSw); go_simp; (try with_reducible rfl))
          simp only [Act.put, List.setIfInBounds_toArray, List.set_cons_zero, List.set_cons_succ]
          refine comeC (i := 16) rfl (by kernel_rfl) (by rfl) (fun K hK => ?_)
          go_simp
          have u32 : Up W3 (W31.alloc (.cells #[.string b.rel, .slice ba b.args.length bc] 26)) := Up.al u31 _
          have KY := Blk.new W31 26 #[.string b.rel, .slice ba b.args.length bc]
          replace KX := KX.up (Up.al1 W31 (.cells #[.string b.rel, .slice ba b.args.length bc] 26))
          clear hHeld
          refine hK.out _ _ (by (try dsimp only); exact ⟨(KA3.out.up u32).cell 0, (KA3.out.up u32).cell 1, (KB3.out.up u32).cell 0, (KB3.out.up u32).cell 1, u32⟩) (fun hHeld => ?_)
          clear hK K
          try simp only [Act.put, List.setIfInBounds_toArray, List.set_cons_zero, List.set_cons_succ]
          generalize W31.alloc (.cells #[.string b.rel, .slice ba b.args.length bc] 26) = W32 at *
          refine comeC (i := 17) rfl (by kernel_rfl) (by rfl) (fun K hK => ?_)
          go_simp
          go_at_call 8
          refine (sameK1 (sf_one KX (HA3.out.up u32)) (sf_one KY (HB3.out.up u32)) hsm).mono ?_
          rintro e W33 ⟨rfl, b9⟩
          have u33 : Up W3 W33 := Up.tr u32 b9
          clear hHeld b9
          go_wp2_with fail
          refine hK.out _ _ (by (try dsimp only); exact ⟨(KA3.out.up u33).cell 0, (KA3.out.up u33).cell 1, (KB3.out.up u33).cell 0, (KB3.out.up u33).cell 1, u33⟩) (fun hHeld => ?_)
          clear hK K
          try simp only [Act.put, List.setIfInBounds_toArray, List.set_cons_zero, List.set_cons_succ]
          refine takeW (i := 18) (v := ?_) rfl (by kernel_rfl) (by kernel_rfl) (by kernel_rfl) (fun _ _ _ h => h) (by rfl) (by assumption) ?_ ?_
          rotate_left
          · (intro w9 hSw; (try dsimp only at hSw); go_simp; (try with_reducible rfl))
          simp only [Act.put, List.setIfInBounds_toArray, List.set_cons_zero, List.set_cons_succ]
          refine takeW (i := 19) (v := ?_) rfl (by kernel_rfl) (by kernel_rfl) (by kernel_rfl) (fun _ _ _ h => h) (by rfl) (by assumption) ?_ ?_
          rotate_left
          · (intro w9 hSw; (try dsimp only at hSw); go_simp; (try with_reducible rfl))
          simp only [Act.put, List.setIfInBounds_toArray, List.set_cons_zero, List.set_cons_succ]
          refine wpAnyH_done (by kernel_rfl) ?_ _
          go_wp2_with fail
          go_meet
          case rel => exact ⟨rfl, u33⟩
        refine comeA (i := 16) rfl (by rfl) (fun K hK => ?_) ?_
        · skip
          go_simp
          have u34 : Up W3 (W30.alloc (.cells #[.string b.rel, .slice ba b.args.length bc] 26)) := Up.al u30 _
          have KY := Blk.new W30 26 #[.string b.rel, .slice ba b.args.length bc]
          replace KX := KX.up (Up.al1 W30 (.cells #[.string b.rel, .slice ba b.args.length bc] 26))
          clear hHeld
          refine hK.out _ _ (by (try dsimp only); exact ⟨(KA3.out.up u34).cell 0, (KA3.out.up u34).cell 1, (KB3.out.up u34).cell 0, (KB3.out.up u34).cell 1, u34⟩) (fun hHeld => ?_)
          clear hK K
          try simp only [Act.put, List.setIfInBounds_toArray, List.set_cons_zero, List.set_cons_succ]
          generalize W30.alloc (.cells #[.string b.rel, .slice ba b.args.length bc] 26) = W34 at *
          refine comeC (i := 11) rfl (by kernel_rfl) (by rfl) (fun K hK => ?_)
          go_simp
          go_at_call 7
          refine (cmpK (HT3.out.up u34) (HA3.out.up u34) (HB3.out.up u34) hza hzb hab).mono ?_
          rintro e W35 ⟨rfl, b9⟩
          have u35 : Up W3 W35 := Up.tr u34 b9
          replace KX := KX.up b9
          replace KY := KY.up b9
          clear hHeld b9
          go_wp2_with fail
          refine hK.out _ _ (by (try dsimp only); exact ⟨(KA3.out.up u35).cell 0, (KA3.out.up u35).cell 1, (KB3.out.up u35).cell 0, (KB3.out.up u35).cell 1, u35⟩) (fun hHeld => ?_)
          clear hK K
          try simp only [Act.put, List.setIfInBounds_toArray, List.set_cons_zero, List.set_cons_succ]
          refine takeW (i := 12) (v := ?_) rfl (by kernel_rfl) (by kernel_rfl) (by kernel_rfl) (fun _ _ _ h => h) (by rfl) (by assumption) ?_ ?_
          rotate_left
          · (intro w9 hSw; (try dsimp only at hSw); go_simp; (try with_reducible rfl))
          simp only [Act.put, List.setIfInBounds_toArray, List.set_cons_zero, List.set_cons_succ]
          refine comeC (i := 17) rfl (by kernel_rfl) (by rfl) (fun K hK => ?_)
          go_simp
          go_at_call 8
          refine (sameK1 (sf_one KX (HA3.out.up u35)) (sf_one KY (HB3.out.up u35)) hsm).mono ?_
          rintro e W36 ⟨rfl, b9⟩
          have u36 : Up W3 W36 := Up.tr u35 b9
          clear hHeld b9
          go_wp2_with fail
          refine hK.out _ _ (by (try dsimp only); exact ⟨(KA3.out.up u36).cell 0, (KA3.out.up u36).cell 1, (KB3.out.up u36).cell 0, (KB3.out.up u36).cell 1, u36⟩) (fun hHeld => ?_)
          clear hK K
          try simp only [Act.put, List.setIfInBounds_toArray, List.set_cons_zero, List.set_cons_succ]
          refine takeW (i := 18) (v := ?_) rfl (by kernel_rfl) (by kernel_rfl) (by kernel_rfl) (fun _ _ _ h => h) (by rfl) (by assumption) ?_ ?_
          rotate_left
          · (intro w9 hSw; (try dsimp only at hSw); go_simp; (try with_reducible rfl))
          simp only [Act.put, List.setIfInBounds_toArray, List.set_cons_zero, List.set_cons_succ]
          refine takeW (i := 19) (v := ?_) rfl (by kernel_rfl) (by kernel_rfl) (by kernel_rfl) (fun _ _ _ h => h) (by rfl) (by assumption) ?_ ?_
          rotate_left
          · (intro w9 hSw; (try dsimp only at hSw); go_simp; (try with_reducible rfl))
          simp only [Act.put, List.setIfInBounds_toArray, List.set_cons_zero, List.set_cons_succ]
          refine wpAnyH_done (by kernel_rfl) ?_ _
          go_wp2_with fail
          go_meet
          case rel => exact ⟨rfl, u36⟩
        exact AllReadyH.nil
      refine comeA (i := 16) rfl (by rfl) (fun K hK => ?_) ?_
      · skip
        go_simp
        have u37 : Up W3 (W22.alloc (.cells #[.string b.rel, .slice ba b.args.length bc] 26)) := Up.al u22 _
        have KY := Blk.new W22 26 #[.string b.rel, .slice ba b.args.length bc]
        clear hHeld
        refine hK.out _ _ (by (try dsimp only); exact ⟨(KA3.out.up u37).cell 0, (KA3.out.up u37).cell 1, (KB3.out.up u37).cell 0, (KB3.out.up u37).cell 1, u37⟩) (fun hHeld => ?_)
        clear hK K
        try simp only [Act.put, List.setIfInBounds_toArray, List.set_cons_zero, List.set_cons_succ]
        generalize W22.alloc (.cells #[.string b.rel, .slice ba b.args.length bc] 26) = W37 at *
        refine wpAnyH_ready (rs := [11, 14]) (by kernel_rfl) (by simp) ?_
        refine comeA (i := 11) rfl (by rfl) (fun K hK => ?_) ?_
        · skip
          go_simp
          go_at_call 7
          refine (cmpK (HT3.out.up u37) (HA3.out.up u37) (HB3.out.up u37) hza hzb hab).mono ?_
          rintro e W38 ⟨rfl, b9⟩
          have u38 : Up W3 W38 := Up.tr u37 b9
          replace KY := KY.up b9
          clear hHeld b9
          go_wp2_with fail
          refine hK.out _ _ (by (try dsimp only); exact ⟨(KA3.out.up u38).cell 0, (KA3.out.up u38).cell 1, (KB3.out.up u38).cell 0, (KB3.out.up u38).cell 1, u38⟩) (fun hHeld => ?_)
          clear hK K
          try simp only [Act.put, List.setIfInBounds_toArray, List.set_cons_zero, List.set_cons_succ]
          refine takeW (i := 12) (v := ?_) rfl (by kernel_rfl) (by kernel_rfl) (by kernel_rfl) (fun _ _ _ h => h) (by rfl) (by assumption) ?_ ?_
          rotate_left
          · (intro w9 hSw; (try dsimp only at hSw); go_simp; (try with_reducible rfl))
          simp only [Act.put, List.setIfInBounds_toArray, List.set_cons_zero, List.set_cons_succ]
          refine comeC (i := 14) rfl (by kernel_rfl) (by rfl) (fun K hK => ?_)
          go_simp
          have u39 : Up W3 (W38.alloc (.cells #[.string a.rel, .slice aa a.args.length ac] 26)) := Up.al u38 _
          have KX := Blk.new W38 26 #[.string a.rel, .slice aa a.args.length ac]
          replace KY := KY.up (Up.al1 W38 (.cells #[.string a.rel, .slice aa a.args.length ac] 26))
          clear hHeld
          refine hK.out _ _ (by (try dsimp only); exact ⟨(KA3.out.up u39).cell 0, (KA3.out.up u39).cell 1, (KB3.out.up u39).cell 0, (KB3.out.up u39).cell 1, u39⟩) (fun hHeld => ?_)
          clear hK K
          try simp only [Act.put, List.setIfInBounds_toArray, List.set_cons_zero, List.set_cons_succ]
          generalize W38.alloc (.cells #[.string a.rel, .slice aa a.args.length ac] 26) = W39 at *
          refine comeC (i := 17) rfl (by kernel_rfl) (by rfl) (fun K hK => ?_)
          go_simp
          go_at_call 8
          refine (sameK1 (sf_one KX (HA3.out.up u39)) (sf_one KY (HB3.out.up u39)) hsm).mono ?_
          rintro e W40 ⟨rfl, b9⟩
          have u40 : Up W3 W40 := Up.tr u39 b9
          clear hHeld b9
          go_wp2_with fail
          refine hK.out _ _ (by (try dsimp only); exact ⟨(KA3.out.up u40).cell 0, (KA3.out.up u40).cell 1, (KB3.out.up u40).cell 0, (KB3.out.up u40).cell 1, u40⟩) (fun hHeld => ?_)
          clear hK K
          try simp only [Act.put, List.setIfInBounds_toArray, List.set_cons_zero, List.set_cons_succ]
          refine takeW (i := 18) (v := ?_) rfl (by kernel_rfl) (by kernel_rfl) (by kernel_rfl) (fun _ _ _ h => h) (by rfl) (by assumption) ?_ ?_
          rotate_left
          · (intro w9 hSw; (try dsimp only at hSw); go_simp; (try with_reducible rfl))
          simp only [Act.put, List.setIfInBounds_toArray, List.set_cons_zero, List.set_cons_succ]
          refine takeW (i := 19) (v := ?_) rfl (by kernel_rfl) (by kernel_rfl) (by kernel_rfl) (fun _ _ _ h => h) (by rfl) (by assumption) ?_ ?_
          rotate_left
          · (intro w9 hSw; (try dsimp only at hSw); go_simp; (try with_reducible rfl))
          simp only [Act.put, List.setIfInBounds_toArray, List.set_cons_zero, List.set_cons_succ]
          refine wpAnyH_done (by kernel_rfl) ?_ _
          go_wp2_with fail
          go_meet
          case rel => exact ⟨rfl, u40⟩
        refine comeA (i := 14) rfl (by rfl) (fun K hK => ?_) ?_
        · skip
          go_simp
          have u41 : Up W3 (W37.alloc (.cells #[.string a.rel, .slice aa a.args.length ac] 26)) := Up.al u37 _
          have KX := Blk.new W37 26 #[.string a.rel, .slice aa a.args.length ac]
          replace KY := KY.up (Up.al1 W37 (.cells #[.string a.rel, .slice aa a.args.length ac] 26))
          clear hHeld
          refine hK.out _ _ (by (try dsimp only); exact ⟨(KA3.out.up u41).cell 0, (KA3.out.up u41).cell 1, (KB3.out.up u41).cell 0, (KB3.out.up u41).cell 1, u41⟩) (fun hHeld => ?_)
          clear hK K
          try simp only [Act.put, List.setIfInBounds_toArray, List.set_cons_zero, List.set_cons_succ]
          generalize W37.alloc (.cells #[.string a.rel, .slice aa a.args.length ac] 26) = W41 at *
          refine comeC (i := 11) rfl (by kernel_rfl) (by rfl) (fun K hK => ?_)
          go_simp
          go_at_call 7
          refine (cmpK (HT3.out.up u41) (HA3.out.up u41) (HB3.out.up u41) hza hzb hab).mono ?_
          rintro e W42 ⟨rfl, b9⟩
          have u42 : Up W3 W42 := Up.tr u41 b9
          replace KY := KY.up b9
          replace KX := KX.up b9
          clear hHeld b9
          go_wp2_with fail
          refine hK.out _ _ (by (try dsimp only); exact ⟨(KA3.out.up u42).cell 0, (KA3.out.up u42).cell 1, (KB3.out.up u42).cell 0, (KB3.out.up u42).cell 1, u42⟩) (fun hHeld => ?_)
          clear hK K
          try simp only [Act.put, List.setIfInBounds_toArray, List.set_cons_zero, List.set_cons_succ]
          refine takeW (i := 12) (v := ?_) rfl (by kernel_rfl) (by kernel_rfl) (by kernel_rfl) (fun _ _ _ h => h) (by rfl) (by assumption) ?_ ?_
          rotate_left
          · (intro w9 hSw; (try dsimp only at hSw); go_simp; (try with_reducible rfl))
          simp only [Act.put, List.setIfInBounds_toArray, List.set_cons_zero, List.set_cons_succ]
          refine comeC (i := 17) rfl (by kernel_rfl) (by rfl) (fun K hK => ?_)
          go_simp
          go_at_call 8
          refine (sameK1 (sf_one KX (HA3.out.up u42)) (sf_one KY (HB3.out.up u42)) hsm).mono ?_
          rintro e W43 ⟨rfl, b9⟩
          have u43 : Up W3 W43 := Up.tr u42 b9
          clear hHeld b9
          go_wp2_with fail
          refine hK.out _ _ (by (try dsimp only); exact ⟨(KA3.out.up u43).cell 0, (KA3.out.up u43).cell 1, (KB3.out.up u43).cell 0, (KB3.out.up u43).cell 1, u43⟩) (fun hHeld => ?_)
          clear hK K
          try simp only [Act.put, List.setIfInBounds_toArray, List.set_cons_zero, List.set_cons_succ]
          refine takeW (i := 18) (v := ?_) rfl (by kernel_rfl) (by kernel_rfl) (by kernel_rfl) (fun _ _ _ h => h) (by rfl) (by assumption) ?_ ?_
          rotate_left
          · (intro w9 hSw; (try dsimp only at hSw); go_simp; (try with_reducible rfl))
          simp only [Act.put, List.setIfInBounds_toArray, List.set_cons_zero, List.set_cons_succ]
          refine takeW (i := 19) (v := ?_) rfl (by kernel_rfl) (by kernel_rfl) (by kernel_rfl) (fun _ _ _ h => h) (by rfl) (by assumption) ?_ ?_
          rotate_left
          · (intro w9 hSw; (try dsimp only at hSw); go_simp; (try with_reducible rfl))
          simp only [Act.put, List.setIfInBounds_toArray, List.set_cons_zero, List.set_cons_succ]
          refine wpAnyH_done (by kernel_rfl) ?_ _
          go_wp2_with fail
          go_meet
          case rel => exact ⟨rfl, u43⟩
        exact AllReadyH.nil
      exact AllReadyH.nil
    · skip
      refine wp_region_held_drew (S := (fun w' => w'.cell? ⟨p, 0, none⟩ = some (.string a.rel) ∧ w'.cell? ⟨p, 1, none⟩ = some (.slice aa a.args.length ac) ∧ w'.cell? ⟨p + 1, 0, none⟩ = some (.string b.rel) ∧ w'.cell? ⟨p + 1, 1, none⟩ = some (.slice ba b.args.length bc) ∧ Up W3 w')) (by kernel_rfl) (by (try dsimp only); exact ⟨(KA3.out.up hdr).cell 0, (KA3.out.up hdr).cell 1, (KB3.out.up hdr).cell 0, (KB3.out.up hdr).cell 1, hdr⟩) (fun hHeld => ?_)
      refine takeW (i := 0) (v := ?_) rfl (by kernel_rfl) (by kernel_rfl) (by kernel_rfl) (fun _ _ _ h => h) (by rfl) (by assumption) ?_ ?_
      rotate_left
      · (intro w9 hSw; (try dsimp only at hSw); go_simp; (try with_reducible rfl))
      simp only [Act.put, List.setIfInBounds_toArray, List.set_cons_zero, List.set_cons_succ]
      refine takeW (i := 1) (v := ?_) rfl (by kernel_rfl) (by kernel_rfl) (by kernel_rfl) (fun _ _ _ h => h) (by rfl) (by assumption) ?_ ?_
      rotate_left
      · (intro w9 hSw; (try dsimp only at hSw); go_simp; (try with_reducible rfl))
      simp only [Act.put, List.setIfInBounds_toArray, List.set_cons_zero, List.set_cons_succ]
      refine takeW (i := 3) (v := ?_) rfl (by kernel_rfl) (by kernel_rfl) (by kernel_rfl) (fun _ _ _ h => h) (by rfl) (by assumption) ?_ ?_
      rotate_left
      · (intro w9 hSw; (try dsimp only at hSw); go_simp; (try with_reducible rfl))
      simp only [Act.put, List.setIfInBounds_toArray, List.set_cons_zero, List.set_cons_succ]
      refine takeW (i := 4) (v := ?_) rfl (by kernel_rfl) (by kernel_rfl) (by kernel_rfl) (fun _ _ _ h => h) (by rfl) (by assumption) ?_ ?_
      rotate_left
      · (intro w9 hSw; (try dsimp only at hSw); go_simp; (try with_reducible rfl))
      simp only [Act.put, List.setIfInBounds_toArray, List.set_cons_zero, List.set_cons_succ]
      refine comeC (i := 2) rfl (by kernel_rfl) (by rfl) (fun K hK => ?_)
      go_simp
      go_at_call 7
      refine (cmpK (HT3.out.up hdr) (HA3.out.up hdr) (HB3.out.up hdr) hza hzb hab).mono ?_
      rintro e W44 ⟨rfl, b9⟩
      have u44 : Up W3 W44 := Up.tr hdr b9
      clear hHeld b9
      go_wp2_with fail
      refine hK.out _ _ (by (try dsimp only); exact ⟨(KA3.out.up u44).cell 0, (KA3.out.up u44).cell 1, (KB3.out.up u44).cell 0, (KB3.out.up u44).cell 1, u44⟩) (fun hHeld => ?_)
      clear hK K
      try simp only [Act.put, List.setIfInBounds_toArray, List.set_cons_zero, List.set_cons_succ]
      refine comeC (i := 5) rfl (by kernel_rfl) (by rfl) (fun K hK => ?_)
      go_simp
      go_at_call 7
      refine (cmpK (HT3.out.up u44) (HB3.out.up u44) (HA3.out.up u44) hzb hza hba).mono ?_
      rintro e W45 ⟨rfl, b9⟩
      have u45 : Up W3 W45 := Up.tr u44 b9
      clear hHeld b9
      go_wp2_with fail
      refine hK.out _ _ (by (try dsimp only); exact ⟨(KA3.out.up u45).cell 0, (KA3.out.up u45).cell 1, (KB3.out.up u45).cell 0, (KB3.out.up u45).cell 1, u45⟩) (fun hHeld => ?_)
      clear hK K
      try simp only [Act.put, List.setIfInBounds_toArray, List.set_cons_zero, List.set_cons_succ]
      refine takeW (i := 6) (v := ?_) rfl (by kernel_rfl) (by kernel_rfl) (by kernel_rfl) (fun _ _ _ h => h) (by rfl) (by assumption) ?_ ?_
      rotate_left
      · (intro w9 hSw; (try dsimp only at hSw); go_simp; (try with_reducible rfl))
      simp only [Act.put, List.setIfInBounds_toArray, List.set_cons_zero, List.set_cons_succ]
      refine takeW (i := 7) (v := ?_) rfl (by kernel_rfl) (by kernel_rfl) (by kernel_rfl) (fun _ _ _ h => h) (by rfl) (by assumption) ?_ ?_
      rotate_left
      · (intro w9 hSw; (try dsimp only at hSw); go_simp; (try with_reducible rfl))
      simp only [Act.put, List.setIfInBounds_toArray, List.set_cons_zero, List.set_cons_succ]
      refine takeW (i := 8) (v := ?_) rfl (by kernel_rfl) (by kernel_rfl) (by kernel_rfl) (fun _ _ _ h => h) (by rfl) (by assumption) ?_ ?_
      rotate_left
      · (intro w9 hSw; (try dsimp only at hSw); go_simp; (try with_reducible rfl))
      simp only [Act.put, List.setIfInBounds_toArray, List.set_cons_zero, List.set_cons_succ]
      refine takeW (i := 9) (v := ?_) rfl (by kernel_rfl) (by kernel_rfl) (by kernel_rfl) (fun _ _ _ h => h) (by rfl) (by assumption) ?_ ?_
      rotate_left
      · (intro w9 hSw; (try dsimp only at hSw); go_simp; (try with_reducible rfl))
      simp only [Act.put, List.setIfInBounds_toArray, List.set_cons_zero, List.set_cons_succ]
      refine takeW (i := 10) (v := ?_) rfl (by kernel_rfl) (by kernel_rfl) (by kernel_rfl) (fun _ _ _ h => h) (by rfl) (by assumption) ?_ ?_
      rotate_left
      · (intro w9 hSw; (try dsimp only at hSw); go_simp; (try with_reducible rfl))
      simp only [Act.put, List.setIfInBounds_toArray, List.set_cons_zero, List.set_cons_succ]
      refine takeW (i := 13) (v := ?_) rfl (by kernel_rfl) (by kernel_rfl) (by kernel_rfl) (fun _ _ _ h => h) (by rfl) (by assumption) ?_ ?_
      rotate_left
      · (intro w9 hSw; (try dsimp only at hSw); go_simp; (try with_reducible rfl))
      simp only [Act.put, List.setIfInBounds_toArray, List.set_cons_zero, List.set_cons_succ]
      refine takeW (i := 15) (v := ?_) rfl (by kernel_rfl) (by kernel_rfl) (by kernel_rfl) (fun _ _ _ h => h) (by rfl) (by assumption) ?_ ?_
      rotate_left
      · (intro w9 hSw; (try dsimp only at hSw); go_simp; (try with_reducible rfl))
      simp only [Act.put, List.setIfInBounds_toArray, List.set_cons_zero, List.set_cons_succ]
      refine wpAnyH_ready (rs := [11, 14, 16]) (by kernel_rfl) (by simp) ?_
      refine comeA (i := 11) rfl (by rfl) (fun K hK => ?_) ?_
      · skip
        go_simp
        go_at_call 7
        refine (cmpK (HT3.out.up u45) (HA3.out.up u45) (HB3.out.up u45) hza hzb hab).mono ?_
        rintro e W46 ⟨rfl, b9⟩
        have u46 : Up W3 W46 := Up.tr u45 b9
        clear hHeld b9
        go_wp2_with fail
        refine hK.out _ _ (by (try dsimp only); exact ⟨(KA3.out.up u46).cell 0, (KA3.out.up u46).cell 1, (KB3.out.up u46).cell 0, (KB3.out.up u46).cell 1, u46⟩) (fun hHeld => ?_)
        clear hK K
        try simp only [Act.put, List.setIfInBounds_toArray, List.set_cons_zero, List.set_cons_succ]
        refine takeW (i := 12) (v := ?_) rfl (by kernel_rfl) (by kernel_rfl) (by kernel_rfl) (fun _ _ _ h => h) (by rfl) (by assumption) ?_ ?_
        rotate_left
        · (intro w9 hSw; (try dsimp only at hSw); go_simp; (try with_reducible rfl))
        simp only [Act.put, List.setIfInBounds_toArray, List.set_cons_zero, List.set_cons_succ]
        refine wpAnyH_ready (rs := [14, 16]) (by kernel_rfl) (by simp) ?_
        refine comeA (i := 14) rfl (by rfl) (fun K hK => ?_) ?_
        · skip
          go_simp
          have u47 : Up W3 (W46.alloc (.cells #[.string a.rel, .slice aa a.args.length ac] 26)) := Up.al u46 _
          have KX := Blk.new W46 26 #[.string a.rel, .slice aa a.args.length ac]
          clear hHeld
          refine hK.out _ _ (by (try dsimp only); exact ⟨(KA3.out.up u47).cell 0, (KA3.out.up u47).cell 1, (KB3.out.up u47).cell 0, (KB3.out.up u47).cell 1, u47⟩) (fun hHeld => ?_)
          clear hK K
          try simp only [Act.put, List.setIfInBounds_toArray, List.set_cons_zero, List.set_cons_succ]
          generalize W46.alloc (.cells #[.string a.rel, .slice aa a.args.length ac] 26) = W47 at *
          refine comeC (i := 16) rfl (by kernel_rfl) (by rfl) (fun K hK => ?_)
          go_simp
          have u48 : Up W3 (W47.alloc (.cells #[.string b.rel, .slice ba b.args.length bc] 26)) := Up.al u47 _
          have KY := Blk.new W47 26 #[.string b.rel, .slice ba b.args.length bc]
          replace KX := KX.up (Up.al1 W47 (.cells #[.string b.rel, .slice ba b.args.length bc] 26))
          clear hHeld
          refine hK.out _ _ (by (try dsimp only); exact ⟨(KA3.out.up u48).cell 0, (KA3.out.up u48).cell 1, (KB3.out.up u48).cell 0, (KB3.out.up u48).cell 1, u48⟩) (fun hHeld => ?_)
          clear hK K
          try simp only [Act.put, List.setIfInBounds_toArray, List.set_cons_zero, List.set_cons_succ]
          generalize W47.alloc (.cells #[.string b.rel, .slice ba b.args.length bc] 26) = W48 at *
          refine comeC (i := 17) rfl (by kernel_rfl) (by rfl) (fun K hK => ?_)
          go_simp
          go_at_call 8
          refine (sameK1 (sf_one KX (HA3.out.up u48)) (sf_one KY (HB3.out.up u48)) hsm).mono ?_
          rintro e W49 ⟨rfl, b9⟩
          have u49 : Up W3 W49 := Up.tr u48 b9
          clear hHeld b9
          go_wp2_with fail
          refine hK.out _ _ (by (try dsimp only); exact ⟨(KA3.out.up u49).cell 0, (KA3.out.up u49).cell 1, (KB3.out.up u49).cell 0, (KB3.out.up u49).cell 1, u49⟩) (fun hHeld => ?_)
          clear hK K
          try simp only [Act.put, List.setIfInBounds_toArray, List.set_cons_zero, List.set_cons_succ]
          refine takeW (i := 18) (v := ?_) rfl (by kernel_rfl) (by kernel_rfl) (by kernel_rfl) (fun _ _ _ h => h) (by rfl) (by assumption) ?_ ?_
          rotate_left
          · (intro w9 hSw; (try dsimp only at hSw); go_simp; (try with_reducible rfl))
          simp only [Act.put, List.setIfInBounds_toArray, List.set_cons_zero, List.set_cons_succ]
          refine takeW (i := 19) (v := ?_) rfl (by kernel_rfl) (by kernel_rfl) (by kernel_rfl) (fun _ _ _ h => h) (by rfl) (by assumption) ?_ ?_
          rotate_left
          · (intro w9 hSw; (try dsimp only at hSw); go_simp; (try with_reducible rfl))
          simp only [Act.put, List.setIfInBounds_toArray, List.set_cons_zero, List.set_cons_succ]
          refine wpAnyH_done (by kernel_rfl) ?_ _
          go_wp2_with fail
          go_meet
          case rel => exact ⟨rfl, u49⟩
        refine comeA (i := 16) rfl (by rfl) (fun K hK => ?_) ?_
        · skip
          go_simp
          have u50 : Up W3 (W46.alloc (.cells #[.string b.rel, .slice ba b.args.length bc] 26)) := Up.al u46 _
          have KY := Blk.new W46 26 #[.string b.rel, .slice ba b.args.length bc]
          clear hHeld
          refine hK.out _ _ (by (try dsimp only); exact ⟨(KA3.out.up u50).cell 0, (KA3.out.up u50).cell 1, (KB3.out.up u50).cell 0, (KB3.out.up u50).cell 1, u50⟩) (fun hHeld => ?_)
          clear hK K
          try simp only [Act.put, List.setIfInBounds_toArray, List.set_cons_zero, List.set_cons_succ]
          generalize W46.alloc (.cells #[.string b.rel, .slice ba b.args.length bc] 26) = W50 at *
          refine comeC (i := 14) rfl (by kernel_rfl) (by rfl) (fun K hK => ?_)
          go_simp
          have u51 : Up W3 (W50.alloc (.cells #[.string a.rel, .slice aa a.args.length ac] 26)) := Up.al u50 _
          have KX := Blk.new W50 26 #[.string a.rel, .slice aa a.args.length ac]
          replace KY := KY.up (Up.al1 W50 (.cells #[.string a.rel, .slice aa a.args.length ac] 26))
          clear hHeld
          refine hK.out _ _ (by (try dsimp only); exact ⟨(KA3.out.up u51).cell 0, (KA3.out.up u51).cell 1, (KB3.out.up u51).cell 0, (KB3.out.up u51).cell 1, u51⟩) (fun hHeld => ?_)
          clear hK K
          try simp only [Act.put, List.setIfInBounds_toArray, List.set_cons_zero, List.set_cons_succ]
          generalize W50.alloc (.cells #[.string a.rel, .slice aa a.args.length ac] 26) = W51 at *
          refine comeC (i := 17) rfl (by kernel_rfl) (by rfl) (fun K hK => ?_)
          go_simp
          go_at_call 8
          refine (sameK1 (sf_one KX (HA3.out.up u51)) (sf_one KY (HB3.out.up u51)) hsm).mono ?_
          rintro e W52 ⟨rfl, b9⟩
          have u52 : Up W3 W52 := Up.tr u51 b9
          clear hHeld b9
          go_wp2_with fail
          refine hK.out _ _ (by (try dsimp only); exact ⟨(KA3.out.up u52).cell 0, (KA3.out.up u52).cell 1, (KB3.out.up u52).cell 0, (KB3.out.up u52).cell 1, u52⟩) (fun hHeld => ?_)
          clear hK K
          try simp only [Act.put, List.setIfInBounds_toArray, List.set_cons_zero, List.set_cons_succ]
          refine takeW (i := 18) (v := ?_) rfl (by kernel_rfl) (by kernel_rfl) (by kernel_rfl) (fun _ _ _ h => h) (by rfl) (by assumption) ?_ ?_
          rotate_left
          · (intro w9 hSw; (try dsimp only at hSw); go_simp; (try with_reducible rfl))
          simp only [Act.put, List.setIfInBounds_toArray, List.set_cons_zero, List.set_cons_succ]
          refine takeW (i := 19) (v := ?_) rfl (by kernel_rfl) (by kernel_rfl) (by kernel_rfl) (fun _ _ _ h => h) (by rfl) (by assumption) ?_ ?_
          rotate_left
          · (intro w9 hSw; (try dsimp only at hSw); go_simp; (try with_reducible rfl))
          simp only [Act.put, List.setIfInBounds_toArray, List.set_cons_zero, List.set_cons_succ]
          refine wpAnyH_done (by kernel_rfl) ?_ _
          go_wp2_with fail
          go_meet
          case rel => exact ⟨rfl, u52⟩
        exact AllReadyH.nil
      refine comeA (i := 14) rfl (by rfl) (fun K hK => ?_) ?_
      · skip
        go_simp
        have u53 : Up W3 (W45.alloc (.cells #[.string a.rel, .slice aa a.args.length ac] 26)) := Up.al u45 _
        have KX := Blk.new W45 26 #[.string a.rel, .slice aa a.args.length ac]
        clear hHeld
        refine hK.out _ _ (by (try dsimp only); exact ⟨(KA3.out.up u53).cell 0, (KA3.out.up u53).cell 1, (KB3.out.up u53).cell 0, (KB3.out.up u53).cell 1, u53⟩) (fun hHeld => ?_)
        clear hK K
        try simp only [Act.put, List.setIfInBounds_toArray, List.set_cons_zero, List.set_cons_succ]
        generalize W45.alloc (.cells #[.string a.rel, .slice aa a.args.length ac] 26) = W53 at *
        refine wpAnyH_ready (rs := [11, 16]) (by kernel_rfl) (by simp) ?_
        refine comeA (i := 11) rfl (by rfl) (fun K hK => ?_) ?_
        · skip
          go_simp
          go_at_call 7
          refine (cmpK (HT3.out.up u53) (HA3.out.up u53) (HB3.out.up u53) hza hzb hab).mono ?_
          rintro e W54 ⟨rfl, b9⟩
          have u54 : Up W3 W54 := Up.tr u53 b9
          replace KX := KX.up b9
          clear hHeld b9
          go_wp2_with fail
          refine hK.out _ _ (by (try dsimp only); exact ⟨(KA3.out.up u54).cell 0, (KA3.out.up u54).cell 1, (KB3.out.up u54).cell 0, (KB3.out.up u54).cell 1, u54⟩) (fun hHeld => ?_)
          clear hK K
          try simp only [Act.put, List.setIfInBounds_toArray, List.set_cons_zero, List.set_cons_succ]
          refine takeW (i := 12) (v := ?_) rfl (by kernel_rfl) (by kernel_rfl) (by kernel_rfl) (fun _ _ _ h => h) (by rfl) (by assumption) ?_ ?_
          rotate_left
          · (intro w9 hSw; (try dsimp only at hSw); go_simp; (try with_reducible rfl))
          simp only [Act.put, List.setIfInBounds_toArray, List.set_cons_zero, List.set_cons_succ]
          refine comeC (i := 16) rfl (by kernel_rfl) (by rfl) (fun K hK => ?_)
          go_simp
          have u55 : Up W3 (W54.alloc (.cells #[.string b.rel, .slice ba b.args.length bc] 26)) := Up.al u54 _
          have KY := Blk.new W54 26 #[.string b.rel, .slice ba b.args.length bc]
          replace KX := KX.up (Up.al1 W54 (.cells #[.string b.rel, .slice ba b.args.length bc] 26))
          clear hHeld
          refine hK.out _ _ (by (try dsimp only); exact ⟨(KA3.out.up u55).cell 0, (KA3.out.up u55).cell 1, (KB3.out.up u55).cell 0, (KB3.out.up u55).cell 1, u55⟩) (fun hHeld => ?_)
          clear hK K
          try simp only [Act.put, List.setIfInBounds_toArray, List.set_cons_zero, List.set_cons_succ]
          generalize W54.alloc (.cells #[.string b.rel, .slice ba b.args.length bc] 26) = W55 at *
          refine comeC (i := 17) rfl (by kernel_rfl) (by rfl) (fun K hK => ?_)
          go_simp
          go_at_call 8
          refine (sameK1 (sf_one KX (HA3.out.up u55)) (sf_one KY (HB3.out.up u55)) hsm).mono ?_
          rintro e W56 ⟨rfl, b9⟩
          have u56 : Up W3 W56 := Up.tr u55 b9
          clear hHeld b9
          go_wp2_with fail
          refine hK.out _ _ (by (try dsimp only); exact ⟨(KA3.out.up u56).cell 0, (KA3.out.up u56).cell 1, (KB3.out.up u56).cell 0, (KB3.out.up u56).cell 1, u56⟩) (fun hHeld => ?_)
          clear hK K
          try simp only [Act.put, List.setIfInBounds_toArray, List.set_cons_zero, List.set_cons_succ]
          refine takeW (i := 18) (v := ?_) rfl (by kernel_rfl) (by kernel_rfl) (by kernel_rfl) (fun _ _ _ h => h) (by rfl) (by assumption) ?_ ?_
          rotate_left
          · (intro w9 hSw; (try dsimp only at hSw); go_simp; (try with_reducible rfl))
          simp only [Act.put, List.setIfInBounds_toArray, List.set_cons_zero, List.set_cons_succ]
          refine takeW (i := 19) (v := ?_) rfl (by kernel_rfl) (by kernel_rfl) (by kernel_rfl) (fun _ _ _ h => h) (by rfl) (by assumption) ?_ ?_
          rotate_left
          · (intro w9 hSw; (try dsimp only at hSw); go_simp; (try with_reducible rfl))
          simp only [Act.put, List.setIfInBounds_toArray, List.set_cons_zero, List.set_cons_succ]
          refine wpAnyH_done (by kernel_rfl) ?_ _
          go_wp2_with fail
          go_meet
          case rel => exact ⟨rfl, u56⟩
        refine comeA (i := 16) rfl (by rfl) (fun K hK => ?_) ?_
        · skip
          go_simp
          have u57 : Up W3 (W53.alloc (.cells #[.string b.rel, .slice ba b.args.length bc] 26)) := Up.al u53 _
          have KY := Blk.new W53 26 #[.string b.rel, .slice ba b.args.length bc]
          replace KX := KX.up (Up.al1 W53 (.cells #[.string b.rel, .slice ba b.args.length bc] 26))
          clear hHeld
          refine hK.out _ _ (by (try dsimp only); exact ⟨(KA3.out.up u57).cell 0, (KA3.out.up u57).cell 1, (KB3.out.up u57).cell 0, (KB3.out.up u57).cell 1, u57⟩) (fun hHeld => ?_)
          clear hK K
          try simp only [Act.put, List.setIfInBounds_toArray, List.set_cons_zero, List.set_cons_succ]
          generalize W53.alloc (.cells #[.string b.rel, .slice ba b.args.length bc] 26) = W57 at *
          refine comeC (i := 11) rfl (by kernel_rfl) (by rfl) (fun K hK => ?_)
          go_simp
          go_at_call 7
          refine (cmpK (HT3.out.up u57) (HA3.out.up u57) (HB3.out.up u57) hza hzb hab).mono ?_
          rintro e W58 ⟨rfl, b9⟩
          have u58 : Up W3 W58 := Up.tr u57 b9
          replace KX := KX.up b9
          replace KY := KY.up b9
          clear hHeld b9
          go_wp2_with fail
          refine hK.out _ _ (by (try dsimp only); exact ⟨(KA3.out.up u58).cell 0, (KA3.out.up u58).cell 1, (KB3.out.up u58).cell 0, (KB3.out.up u58).cell 1, u58⟩) (fun hHeld => ?_)
          clear hK K
          try simp only [Act.put, List.setIfInBounds_toArray, List.set_cons_zero, List.set_cons_succ]
          refine takeW (i := 12) (v := ?_) rfl (by kernel_rfl) (by kernel_rfl) (by kernel_rfl) (fun _ _ _ h => h) (by rfl) (by assumption) ?_ ?_
          rotate_left
          · (intro w9 hSw; (try dsimp only at hSw); go_simp; (try with_reducible rfl))
          simp only [Act.put, List.setIfInBounds_toArray, List.set_cons_zero, List.set_cons_succ]
          refine comeC (i := 17) rfl (by kernel_rfl) (by rfl) (fun K hK => ?_)
          go_simp
          go_at_call 8
          refine (sameK1 (sf_one KX (HA3.out.up u58)) (sf_one KY (HB3.out.up u58)) hsm).mono ?_
          rintro e W59 ⟨rfl, b9⟩
          have u59 : Up W3 W59 := Up.tr u58 b9
          clear hHeld b9
          go_wp2_with fail
          refine hK.out _ _ (by (try dsimp only); exact ⟨(KA3.out.up u59).cell 0, (KA3.out.up u59).cell 1, (KB3.out.up u59).cell 0, (KB3.out.up u59).cell 1, u59⟩) (fun hHeld => ?_)
          clear hK K
          try simp only [Act.put, List.setIfInBounds_toArray, List.set_cons_zero, List.set_cons_succ]
          refine takeW (i := 18) (v := ?_) rfl (by kernel_rfl) (by kernel_rfl) (by kernel_rfl) (fun _ _ _ h => h) (by rfl) (by assumption) ?_ ?_
          rotate_left
          · (intro w9 hSw; (try dsimp only at hSw); go_simp; (try with_reducible rfl))
          simp only [Act.put, List.setIfInBounds_toArray, List.set_cons_zero, List.set_cons_succ]
          refine takeW (i := 19) (v := ?_) rfl (by kernel_rfl) (by kernel_rfl) (by kernel_rfl) (fun _ _ _ h => h) (by rfl) (by assumption) ?_ ?_
          rotate_left
          · (intro w9 hSw; (try dsimp only at hSw); go_simp; (try with_reducible rfl))
          simp only [Act.put, List.setIfInBounds_toArray, List.set_cons_zero, List.set_cons_succ]
          refine wpAnyH_done (by kernel_rfl) ?_ _
          go_wp2_with fail
          go_meet
          case rel => exact ⟨rfl, u59⟩
        exact AllReadyH.nil
      refine comeA (i := 16) rfl (by rfl) (fun K hK => ?_) ?_
      · skip
        go_simp
        have u60 : Up W3 (W45.alloc (.cells #[.string b.rel, .slice ba b.args.length bc] 26)) := Up.al u45 _
        have KY := Blk.new W45 26 #[.string b.rel, .slice ba b.args.length bc]
        clear hHeld
        refine hK.out _ _ (by (try dsimp only); exact ⟨(KA3.out.up u60).cell 0, (KA3.out.up u60).cell 1, (KB3.out.up u60).cell 0, (KB3.out.up u60).cell 1, u60⟩) (fun hHeld => ?_)
        clear hK K
        try simp only [Act.put, List.setIfInBounds_toArray, List.set_cons_zero, List.set_cons_succ]
        generalize W45.alloc (.cells #[.string b.rel, .slice ba b.args.length bc] 26) = W60 at *
        refine wpAnyH_ready (rs := [11, 14]) (by kernel_rfl) (by simp) ?_
        refine comeA (i := 11) rfl (by rfl) (fun K hK => ?_) ?_
        · skip
          go_simp
          go_at_call 7
          refine (cmpK (HT3.out.up u60) (HA3.out.up u60) (HB3.out.up u60) hza hzb hab).mono ?_
          rintro e W61 ⟨rfl, b9⟩
          have u61 : Up W3 W61 := Up.tr u60 b9
          replace KY := KY.up b9
          clear hHeld b9
          go_wp2_with fail
          refine hK.out _ _ (by (try dsimp only); exact ⟨(KA3.out.up u61).cell 0, (KA3.out.up u61).cell 1, (KB3.out.up u61).cell 0, (KB3.out.up u61).cell 1, u61⟩) (fun hHeld => ?_)
          clear hK K
          try simp only [Act.put, List.setIfInBounds_toArray, List.set_cons_zero, List.set_cons_succ]
          refine takeW (i := 12) (v := ?_) rfl (by kernel_rfl) (by kernel_rfl) (by kernel_rfl) (fun _ _ _ h => h) (by rfl) (by assumption) ?_ ?_
          rotate_left
          · (intro w9 hSw; (try dsimp only at hSw); go_simp; (try with_reducible rfl))
          simp only [Act.put, List.setIfInBounds_toArray, List.set_cons_zero, List.set_cons_succ]
          refine comeC (i := 14) rfl (by kernel_rfl) (by rfl) (fun K hK => ?_)
          go_simp
          have u62 : Up W3 (W61.alloc (.cells #[.string a.rel, .slice aa a.args.length ac] 26)) := Up.al u61 _
          have KX := Blk.new W61 26 #[.string a.rel, .slice aa a.args.length ac]
          replace KY := KY.up (Up.al1 W61 (.cells #[.string a.rel, .slice aa a.args.length ac] 26))
          clear hHeld
          refine hK.out _ _ (by (try dsimp only); exact ⟨(KA3.out.up u62).cell 0, (KA3.out.up u62).cell 1, (KB3.out.up u62).cell 0, (KB3.out.up u62).cell 1, u62⟩) (fun hHeld => ?_)
          clear hK K
          try simp only [Act.put, List.setIfInBounds_toArray, List.set_cons_zero, List.set_cons_succ]
          generalize W61.alloc (.cells #[.string a.rel, .slice aa a.args.length ac] 26) = W62 at *
          refine comeC (i := 17) rfl (by kernel_rfl) (by rfl) (fun K hK => ?_)
          go_simp
          go_at_call 8
          refine (sameK1 (sf_one KX (HA3.out.up u62)) (sf_one KY (HB3.out.up u62)) hsm).mono ?_
          rintro e W63 ⟨rfl, b9⟩
          have u63 : Up W3 W63 := Up.tr u62 b9
          clear hHeld b9
          go_wp2_with fail
          refine hK.out _ _ (by (try dsimp only); exact ⟨(KA3.out.up u63).cell 0, (KA3.out.up u63).cell 1, (KB3.out.up u63).cell 0, (KB3.out.up u63).cell 1, u63⟩) (fun hHeld => ?_)
          clear hK K
          try simp only [Act.put, List.setIfInBounds_toArray, List.set_cons_zero, List.set_cons_succ]
          refine takeW (i := 18) (v := ?_) rfl (by kernel_rfl) (by kernel_rfl) (by kernel_rfl) (fun _ _ _ h => h) (by rfl) (by assumption) ?_ ?_
          rotate_left
          · (intro w9 hSw; (try dsimp only at hSw); go_simp; (try with_reducible rfl))
          simp only [Act.put, List.setIfInBounds_toArray, List.set_cons_zero, List.set_cons_succ]
          refine takeW (i := 19) (v := ?_) rfl (by kernel_rfl) (by kernel_rfl) (by kernel_rfl) (fun _ _ _ h => h) (by rfl) (by assumption) ?_ ?_
          rotate_left
          · (intro w9 hSw; (try dsimp only at hSw); go_simp; (try with_reducible rfl))
          simp only [Act.put, List.setIfInBounds_toArray, List.set_cons_zero, List.set_cons_succ]
          refine wpAnyH_done (by kernel_rfl) ?_ _
          go_wp2_with fail
          go_meet
          case rel => exact ⟨rfl, u63⟩
        refine comeA (i := 14) rfl (by rfl) (fun K hK => ?_) ?_
        · skip
          go_simp
          have u64 : Up W3 (W60.alloc (.cells #[.string a.rel, .slice aa a.args.length ac] 26)) := Up.al u60 _
          have KX := Blk.new W60 26 #[.string a.rel, .slice aa a.args.length ac]
          replace KY := KY.up (Up.al1 W60 (.cells #[.string a.rel, .slice aa a.args.length ac] 26))
          clear hHeld
          refine hK.out _ _ (by (try dsimp only); exact ⟨(KA3.out.up u64).cell 0, (KA3.out.up u64).cell 1, (KB3.out.up u64).cell 0, (KB3.out.up u64).cell 1, u64⟩) (fun hHeld => ?_)
          clear hK K
          try simp only [Act.put, List.setIfInBounds_toArray, List.set_cons_zero, List.set_cons_succ]
          generalize W60.alloc (.cells #[.string a.rel, .slice aa a.args.length ac] 26) = W64 at *
          refine comeC (i := 11) rfl (by kernel_rfl) (by rfl) (fun K hK => ?_)
          go_simp
          go_at_call 7
          refine (cmpK (HT3.out.up u64) (HA3.out.up u64) (HB3.out.up u64) hza hzb hab).mono ?_
          rintro e W65 ⟨rfl, b9⟩
          have u65 : Up W3 W65 := Up.tr u64 b9
          replace KY := KY.up b9
          replace KX := KX.up b9
          clear hHeld b9
          go_wp2_with fail
          refine hK.out _ _ (by (try dsimp only); exact ⟨(KA3.out.up u65).cell 0, (KA3.out.up u65).cell 1, (KB3.out.up u65).cell 0, (KB3.out.up u65).cell 1, u65⟩) (fun hHeld => ?_)
          clear hK K
          try simp only [Act.put, List.setIfInBounds_toArray, List.set_cons_zero, List.set_cons_succ]
          refine takeW (i := 12) (v := ?_) rfl (by kernel_rfl) (by kernel_rfl) (by kernel_rfl) (fun _ _ _ h => h) (by rfl) (by assumption) ?_ ?_
          rotate_left
          · (intro w9 hSw; (try dsimp only at hSw); go_simp; (try with_reducible rfl))
          simp only [Act.put, List.setIfInBounds_toArray, List.set_cons_zero, List.set_cons_succ]
          refine comeC (i := 17) rfl (by kernel_rfl) (by rfl) (fun K hK => ?_)
          go_simp
          go_at_call 8
          refine (sameK1 (sf_one KX (HA3.out.up u65)) (sf_one KY (HB3.out.up u65)) hsm).mono ?_
          rintro e W66 ⟨rfl, b9⟩
          have u66 : Up W3 W66 := Up.tr u65 b9
          clear hHeld b9
          go_wp2_with fail
          refine hK.out _ _ (by (try dsimp only); exact ⟨(KA3.out.up u66).cell 0, (KA3.out.up u66).cell 1, (KB3.out.up u66).cell 0, (KB3.out.up u66).cell 1, u66⟩) (fun hHeld => ?_)
          clear hK K
          try simp only [Act.put, List.setIfInBounds_toArray, List.set_cons_zero, List.set_cons_succ]
          refine takeW (i := 18) (v := ?_) rfl (by kernel_rfl) (by kernel_rfl) (by kernel_rfl) (fun _ _ _ h => h) (by rfl) (by assumption) ?_ ?_
          rotate_left
          · (intro w9 hSw; (try dsimp only at hSw); go_simp; (try with_reducible rfl))
          simp only [Act.put, List.setIfInBounds_toArray, List.set_cons_zero, List.set_cons_succ]
          refine takeW (i := 19) (v := ?_) rfl (by kernel_rfl) (by kernel_rfl) (by kernel_rfl) (fun _ _ _ h => h) (by rfl) (by assumption) ?_ ?_
          rotate_left
          · (intro w9 hSw; (try dsimp only at hSw); go_simp; (try with_reducible rfl))
          simp only [Act.put, List.setIfInBounds_toArray, List.set_cons_zero, List.set_cons_succ]
          refine wpAnyH_done (by kernel_rfl) ?_ _
          go_wp2_with fail
          go_meet
          case rel => exact ⟨rfl, u66⟩
        exact AllReadyH.nil
      exact AllReadyH.nil
    · skip
      refine wp_region_held_drew (S := (fun w' => w'.cell? ⟨p, 0, none⟩ = some (.string a.rel) ∧ w'.cell? ⟨p, 1, none⟩ = some (.slice aa a.args.length ac) ∧ w'.cell? ⟨p + 1, 0, none⟩ = some (.string b.rel) ∧ w'.cell? ⟨p + 1, 1, none⟩ = some (.slice ba b.args.length bc) ∧ Up W3 w')) (by kernel_rfl) (by (try dsimp only); exact ⟨(KA3.out.up hdr).cell 0, (KA3.out.up hdr).cell 1, (KB3.out.up hdr).cell 0, (KB3.out.up hdr).cell 1, hdr⟩) (fun hHeld => ?_)
      refine takeW (i := 0) (v := ?_) rfl (by kernel_rfl) (by kernel_rfl) (by kernel_rfl) (fun _ _ _ h => h) (by rfl) (by assumption) ?_ ?_
      rotate_left
      · (intro w9 hSw; (try dsimp only at hSw); go_simp; (try with_reducible rfl))
      simp only [Act.put, List.setIfInBounds_toArray, List.set_cons_zero, List.set_cons_succ]
      refine takeW (i := 1) (v := ?_) rfl (by kernel_rfl) (by kernel_rfl) (by kernel_rfl) (fun _ _ _ h => h) (by rfl) (by assumption) ?_ ?_
      rotate_left
      · (intro w9 hSw; (try dsimp only at hSw); go_simp; (try with_reducible rfl))
      simp only [Act.put, List.setIfInBounds_toArray, List.set_cons_zero, List.set_cons_succ]
      refine takeW (i := 3) (v := ?_) rfl (by kernel_rfl) (by kernel_rfl) (by kernel_rfl) (fun _ _ _ h => h) (by rfl) (by assumption) ?_ ?_
      rotate_left
      · (intro w9 hSw; (try dsimp only at hSw); go_simp; (try with_reducible rfl))
      simp only [Act.put, List.setIfInBounds_toArray, List.set_cons_zero, List.set_cons_succ]
      refine takeW (i := 4) (v := ?_) rfl (by kernel_rfl) (by kernel_rfl) (by kernel_rfl) (fun _ _ _ h => h) (by rfl) (by assumption) ?_ ?_
      rotate_left
      · (intro w9 hSw; (try dsimp only at hSw); go_simp; (try with_reducible rfl))
      simp only [Act.put, List.setIfInBounds_toArray, List.set_cons_zero, List.set_cons_succ]
      refine comeC (i := 2) rfl (by kernel_rfl) (by rfl) (fun K hK => ?_)
      go_simp
      go_at_call 7
      refine (cmpK (HT3.out.up hdr) (HA3.out.up hdr) (HB3.out.up hdr) hza hzb hab).mono ?_
      rintro e W67 ⟨rfl, b9⟩
      have u67 : Up W3 W67 := Up.tr hdr b9
      clear hHeld b9
      go_wp2_with fail
      refine hK.out _ _ (by (try dsimp only); exact ⟨(KA3.out.up u67).cell 0, (KA3.out.up u67).cell 1, (KB3.out.up u67).cell 0, (KB3.out.up u67).cell 1, u67⟩) (fun hHeld => ?_)
      clear hK K
      try simp only [Act.put, List.setIfInBounds_toArray, List.set_cons_zero, List.set_cons_succ]
      refine comeC (i := 5) rfl (by kernel_rfl) (by rfl) (fun K hK => ?_)
      go_simp
      go_at_call 7
      refine (cmpK (HT3.out.up u67) (HB3.out.up u67) (HA3.out.up u67) hzb hza hba).mono ?_
      rintro e W68 ⟨rfl, b9⟩
      have u68 : Up W3 W68 := Up.tr u67 b9
      clear hHeld b9
      go_wp2_with fail
      refine hK.out _ _ (by (try dsimp only); exact ⟨(KA3.out.up u68).cell 0, (KA3.out.up u68).cell 1, (KB3.out.up u68).cell 0, (KB3.out.up u68).cell 1, u68⟩) (fun hHeld => ?_)
      clear hK K
      try simp only [Act.put, List.setIfInBounds_toArray, List.set_cons_zero, List.set_cons_succ]
      refine takeW (i := 6) (v := ?_) rfl (by kernel_rfl) (by kernel_rfl) (by kernel_rfl) (fun _ _ _ h => h) (by rfl) (by assumption) ?_ ?_
      rotate_left
      · (intro w9 hSw; (try dsimp only at hSw); go_simp; (try with_reducible rfl))
      simp only [Act.put, List.setIfInBounds_toArray, List.set_cons_zero, List.set_cons_succ]
      refine takeW (i := 7) (v := ?_) rfl (by kernel_rfl) (by kernel_rfl) (by kernel_rfl) (fun _ _ _ h => h) (by rfl) (by assumption) ?_ ?_
      rotate_left
      · (intro w9 hSw; (try dsimp only at hSw); go_simp; (try with_reducible rfl))
      simp only [Act.put, List.setIfInBounds_toArray, List.set_cons_zero, List.set_cons_succ]
      refine takeW (i := 8) (v := ?_) rfl (by kernel_rfl) (by kernel_rfl) (by kernel_rfl) (fun _ _ _ h => h) (by rfl) (by assumption) ?_ ?_
      rotate_left
      · (intro w9 hSw; (try dsimp only at hSw); go_simp; (try with_reducible rfl))
      simp only [Act.put, List.setIfInBounds_toArray, List.set_cons_zero, List.set_cons_succ]
      refine takeW (i := 9) (v := ?_) rfl (by kernel_rfl) (by kernel_rfl) (by kernel_rfl) (fun _ _ _ h => h) (by rfl) (by assumption) ?_ ?_
      rotate_left
      · (intro w9 hSw; (try dsimp only at hSw); go_simp; (try with_reducible rfl))
      simp only [Act.put, List.setIfInBounds_toArray, List.set_cons_zero, List.set_cons_succ]
      refine takeW (i := 10) (v := ?_) rfl (by kernel_rfl) (by kernel_rfl) (by kernel_rfl) (fun _ _ _ h => h) (by rfl) (by assumption) ?_ ?_
      rotate_left
      · (intro w9 hSw; (try dsimp only at hSw); go_simp; (try with_reducible rfl))
      simp only [Act.put, List.setIfInBounds_toArray, List.set_cons_zero, List.set_cons_succ]
      refine takeW (i := 13) (v := ?_) rfl (by kernel_rfl) (by kernel_rfl) (by kernel_rfl) (fun _ _ _ h => h) (by rfl) (by assumption) ?_ ?_
      rotate_left
      · (intro w9 hSw; (try dsimp only at hSw); go_simp; (try with_reducible rfl))
      simp only [Act.put, List.setIfInBounds_toArray, List.set_cons_zero, List.set_cons_succ]
      refine takeW (i := 15) (v := ?_) rfl (by kernel_rfl) (by kernel_rfl) (by kernel_rfl) (fun _ _ _ h => h) (by rfl) (by assumption) ?_ ?_
      rotate_left
      · (intro w9 hSw; (try dsimp only at hSw); go_simp; (try with_reducible rfl))
      simp only [Act.put, List.setIfInBounds_toArray, List.set_cons_zero, List.set_cons_succ]
      refine wpAnyH_ready (rs := [11, 14, 16]) (by kernel_rfl) (by simp) ?_
      refine comeA (i := 11) rfl (by rfl) (fun K hK => ?_) ?_
      · skip
        go_simp
        go_at_call 7
        refine (cmpK (HT3.out.up u68) (HA3.out.up u68) (HB3.out.up u68) hza hzb hab).mono ?_
        rintro e W69 ⟨rfl, b9⟩
        have u69 : Up W3 W69 := Up.tr u68 b9
        clear hHeld b9
        go_wp2_with fail
        refine hK.out _ _ (by (try dsimp only); exact ⟨(KA3.out.up u69).cell 0, (KA3.out.up u69).cell 1, (KB3.out.up u69).cell 0, (KB3.out.up u69).cell 1, u69⟩) (fun hHeld => ?_)
        clear hK K
        try simp only [Act.put, List.setIfInBounds_toArray, List.set_cons_zero, List.set_cons_succ]
        refine takeW (i := 12) (v := ?_) rfl (by kernel_rfl) (by kernel_rfl) (by kernel_rfl) (fun _ _ _ h => h) (by rfl) (by assumption) ?_ ?_
        rotate_left
        · (intro w9 hSw; (try dsimp only at hSw); go_simp; (try with_reducible rfl))
        simp only [Act.put, List.setIfInBounds_toArray, List.set_cons_zero, List.set_cons_succ]
        refine wpAnyH_ready (rs := [14, 16]) (by kernel_rfl) (by simp) ?_
        refine comeA (i := 14) rfl (by rfl) (fun K hK => ?_) ?_
        · skip
          go_simp
          have u70 : Up W3 (W69.alloc (.cells #[.string a.rel, .slice aa a.args.length ac] 26)) := Up.al u69 _
          have KX := Blk.new W69 26 #[.string a.rel, .slice aa a.args.length ac]
          clear hHeld
          refine hK.out _ _ (by (try dsimp only); exact ⟨(KA3.out.up u70).cell 0, (KA3.out.up u70).cell 1, (KB3.out.up u70).cell 0, (KB3.out.up u70).cell 1, u70⟩) (fun hHeld => ?_)
          clear hK K
          try simp only [Act.put, List.setIfInBounds_toArray, List.set_cons_zero, List.set_cons_succ]
          generalize W69.alloc (.cells #[.string a.rel, .slice aa a.args.length ac] 26) = W70 at *
          refine comeC (i := 16) rfl (by kernel_rfl) (by rfl) (fun K hK => ?_)
          go_simp
          have u71 : Up W3 (W70.alloc (.cells #[.string b.rel, .slice ba b.args.length bc] 26)) := Up.al u70 _
          have KY := Blk.new W70 26 #[.string b.rel, .slice ba b.args.length bc]
          replace KX := KX.up (Up.al1 W70 (.cells #[.string b.rel, .slice ba b.args.length bc] 26))
          clear hHeld
          refine hK.out _ _ (by (try dsimp only); exact ⟨(KA3.out.up u71).cell 0, (KA3.out.up u71).cell 1, (KB3.out.up u71).cell 0, (KB3.out.up u71).cell 1, u71⟩) (fun hHeld => ?_)
          clear hK K
          try simp only [Act.put, List.setIfInBounds_toArray, List.set_cons_zero, List.set_cons_succ]
          generalize W70.alloc (.cells #[.string b.rel, .slice ba b.args.length bc] 26) = W71 at *
          refine comeC (i := 17) rfl (by kernel_rfl) (by rfl) (fun K hK => ?_)
          go_simp
          go_at_call 8
          refine (sameK1 (sf_one KX (HA3.out.up u71)) (sf_one KY (HB3.out.up u71)) hsm).mono ?_
          rintro e W72 ⟨rfl, b9⟩
          have u72 : Up W3 W72 := Up.tr u71 b9
          clear hHeld b9
          go_wp2_with fail
          refine hK.out _ _ (by (try dsimp only); exact ⟨(KA3.out.up u72).cell 0, (KA3.out.up u72).cell 1, (KB3.out.up u72).cell 0, (KB3.out.up u72).cell 1, u72⟩) (fun hHeld => ?_)
          clear hK K
          try simp only [Act.put, List.setIfInBounds_toArray, List.set_cons_zero, List.set_cons_succ]
          refine takeW (i := 18) (v := ?_) rfl (by kernel_rfl) (by kernel_rfl) (by kernel_rfl) (fun _ _ _ h => h) (by rfl) (by assumption) ?_ ?_
          rotate_left
          · (intro w9 hSw; (try dsimp only at hSw); go_simp; (try with_reducible rfl))
          simp only [Act.put, List.setIfInBounds_toArray, List.set_cons_zero, List.set_cons_succ]
          refine takeW (i := 19) (v := ?_) rfl (by kernel_rfl) (by kernel_rfl) (by kernel_rfl) (fun _ _ _ h => h) (by rfl) (by assumption) ?_ ?_
          rotate_left
          · (intro w9 hSw; (try dsimp only at hSw); go_simp; (try with_reducible rfl))
          simp only [Act.put, List.setIfInBounds_toArray, List.set_cons_zero, List.set_cons_succ]
          refine wpAnyH_done (by kernel_rfl) ?_ _
          go_wp2_with fail
          go_meet
          case rel => exact ⟨rfl, u72⟩
        refine comeA (i := 16) rfl (by rfl) (fun K hK => ?_) ?_
        · skip
          go_simp
          have u73 : Up W3 (W69.alloc (.cells #[.string b.rel, .slice ba b.args.length bc] 26)) := Up.al u69 _
          have KY := Blk.new W69 26 #[.string b.rel, .slice ba b.args.length bc]
          clear hHeld
          refine hK.out _ _ (by (try dsimp only); exact ⟨(KA3.out.up u73).cell 0, (KA3.out.up u73).cell 1, (KB3.out.up u73).cell 0, (KB3.out.up u73).cell 1, u73⟩) (fun hHeld => ?_)
          clear hK K
          try simp only [Act.put, List.setIfInBounds_toArray, List.set_cons_zero, List.set_cons_succ]
          generalize W69.alloc (.cells #[.string b.rel, .slice ba b.args.length bc] 26) = W73 at *
          refine comeC (i := 14) rfl (by kernel_rfl) (by rfl) (fun K hK => ?_)
          go_simp
          have u74 : Up W3 (W73.alloc (.cells #[.string a.rel, .slice aa a.args.length ac] 26)) := Up.al u73 _
          have KX := Blk.new W73 26 #[.string a.rel, .slice aa a.args.length ac]
          replace KY := KY.up (Up.al1 W73 (.cells #[.string a.rel, .slice aa a.args.length ac] 26))
          clear hHeld
          refine hK.out _ _ (by (try dsimp only); exact ⟨(KA3.out.up u74).cell 0, (KA3.out.up u74).cell 1, (KB3.out.up u74).cell 0, (KB3.out.up u74).cell 1, u74⟩) (fun hHeld => ?_)
          clear hK K
          try simp only [Act.put, List.setIfInBounds_toArray, List.set_cons_zero, List.set_cons_succ]
          generalize W73.alloc (.cells #[.string a.rel, .slice aa a.args.length ac] 26) = W74 at *
          refine comeC (i := 17) rfl (by kernel_rfl) (by rfl) (fun K hK => ?_)
          go_simp
          go_at_call 8
          refine (sameK1 (sf_one KX (HA3.out.up u74)) (sf_one KY (HB3.out.up u74)) hsm).mono ?_
          rintro e W75 ⟨rfl, b9⟩
          have u75 : Up W3 W75 := Up.tr u74 b9
          clear hHeld b9
          go_wp2_with fail
          refine hK.out _ _ (by (try dsimp only); exact ⟨(KA3.out.up u75).cell 0, (KA3.out.up u75).cell 1, (KB3.out.up u75).cell 0, (KB3.out.up u75).cell 1, u75⟩) (fun hHeld => ?_)
          clear hK K
          try simp only [Act.put, List.setIfInBounds_toArray, List.set_cons_zero, List.set_cons_succ]
          refine takeW (i := 18) (v := ?_) rfl (by kernel_rfl) (by kernel_rfl) (by kernel_rfl) (fun _ _ _ h => h) (by rfl) (by assumption) ?_ ?_
          rotate_left
          · (intro w9 hSw; (try dsimp only at hSw); go_simp; (try with_reducible rfl))
          simp only [Act.put, List.setIfInBounds_toArray, List.set_cons_zero, List.set_cons_succ]
          refine takeW (i := 19) (v := ?_) rfl (by kernel_rfl) (by kernel_rfl) (by kernel_rfl) (fun _ _ _ h => h) (by rfl) (by assumption) ?_ ?_
          rotate_left
          · (intro w9 hSw; (try dsimp only at hSw); go_simp; (try with_reducible rfl))
          simp only [Act.put, List.setIfInBounds_toArray, List.set_cons_zero, List.set_cons_succ]
          refine wpAnyH_done (by kernel_rfl) ?_ _
          go_wp2_with fail
          go_meet
          case rel => exact ⟨rfl, u75⟩
        exact AllReadyH.nil
      refine comeA (i := 14) rfl (by rfl) (fun K hK => ?_) ?_
      · skip
        go_simp
        have u76 : Up W3 (W68.alloc (.cells #[.string a.rel, .slice aa a.args.length ac] 26)) := Up.al u68 _
        have KX := Blk.new W68 26 #[.string a.rel, .slice aa a.args.length ac]
        clear hHeld
        refine hK.out _ _ (by (try dsimp only); exact ⟨(KA3.out.up u76).cell 0, (KA3.out.up u76).cell 1, (KB3.out.up u76).cell 0, (KB3.out.up u76).cell 1, u76⟩) (fun hHeld => ?_)
        clear hK K
        try simp only [Act.put, List.setIfInBounds_toArray, List.set_cons_zero, List.set_cons_succ]
        generalize W68.alloc (.cells #[.string a.rel, .slice aa a.args.length ac] 26) = W76 at *
        refine wpAnyH_ready (rs := [11, 16]) (by kernel_rfl) (by simp) ?_
        refine comeA (i := 11) rfl (by rfl) (fun K hK => ?_) ?_
        · skip
          go_simp
          go_at_call 7
          refine (cmpK (HT3.out.up u76) (HA3.out.up u76) (HB3.out.up u76) hza hzb hab).mono ?_
          rintro e W77 ⟨rfl, b9⟩
          have u77 : Up W3 W77 := Up.tr u76 b9
          replace KX := KX.up b9
          clear hHeld b9
          go_wp2_with fail
          refine hK.out _ _ (by (try dsimp only); exact ⟨(KA3.out.up u77).cell 0, (KA3.out.up u77).cell 1, (KB3.out.up u77).cell 0, (KB3.out.up u77).cell 1, u77⟩) (fun hHeld => ?_)
          clear hK K
          try simp only [Act.put, List.setIfInBounds_toArray, List.set_cons_zero, List.set_cons_succ]
          refine takeW (i := 12) (v := ?_) rfl (by kernel_rfl) (by kernel_rfl) (by kernel_rfl) (fun _ _ _ h => h) (by rfl) (by assumption) ?_ ?_
          rotate_left
          · (intro w9 hSw; (try dsimp only at hSw); go_simp; (try with_reducible rfl))
          simp only [Act.put, List.setIfInBounds_toArray, List.set_cons_zero, List.set_cons_succ]
          refine comeC (i := 16) rfl (by kernel_rfl) (by rfl) (fun K hK => ?_)
          go_simp
          have u78 : Up W3 (W77.alloc (.cells #[.string b.rel, .slice ba b.args.length bc] 26)) := Up.al u77 _
          have KY := Blk.new W77 26 #[.string b.rel, .slice ba b.args.length bc]
          replace KX := KX.up (Up.al1 W77 (.cells #[.string b.rel, .slice ba b.args.length bc] 26))
          clear hHeld
          refine hK.out _ _ (by (try dsimp only); exact ⟨(KA3.out.up u78).cell 0, (KA3.out.up u78).cell 1, (KB3.out.up u78).cell 0, (KB3.out.up u78).cell 1, u78⟩) (fun hHeld => ?_)
          clear hK K
          try simp only [Act.put, List.setIfInBounds_toArray, List.set_cons_zero, List.set_cons_succ]
          generalize W77.alloc (.cells #[.string b.rel, .slice ba b.args.length bc] 26) = W78 at *
          refine comeC (i := 17) rfl (by kernel_rfl) (by rfl) (fun K hK => ?_)
          go_simp
          go_at_call 8
          refine (sameK1 (sf_one KX (HA3.out.up u78)) (sf_one KY (HB3.out.up u78)) hsm).mono ?_
          rintro e W79 ⟨rfl, b9⟩
          have u79 : Up W3 W79 := Up.tr u78 b9
          clear hHeld b9
          go_wp2_with fail
          refine hK.out _ _ (by (try dsimp only); exact ⟨(KA3.out.up u79).cell 0, (KA3.out.up u79).cell 1, (KB3.out.up u79).cell 0, (KB3.out.up u79).cell 1, u79⟩) (fun hHeld => ?_)
          clear hK K
          try simp only [Act.put, List.setIfInBounds_toArray, List.set_cons_zero, List.set_cons_succ]
          refine takeW (i := 18) (v := ?_) rfl (by kernel_rfl) (by kernel_rfl) (by kernel_rfl) (fun _ _ _ h => h) (by rfl) (by assumption) ?_ ?_
          rotate_left
          · (intro w9 hSw; (try dsimp only at hSw); go_simp; (try with_reducible rfl))
          simp only [Act.put, List.setIfInBounds_toArray, List.set_cons_zero, List.set_cons_succ]
          refine takeW (i := 19) (v := ?_) rfl (by kernel_rfl) (by kernel_rfl) (by kernel_rfl) (fun _ _ _ h => h) (by rfl) (by assumption) ?_ ?_
          rotate_left
          · (intro w9 hSw; (try dsimp only at hSw); go_simp; (try with_reducible rfl))
          simp only [Act.put, List.setIfInBounds_toArray, List.set_cons_zero, List.set_cons_succ]
          refine wpAnyH_done (by kernel_rfl) ?_ _
          go_wp2_with fail
          go_meet
          case rel => exact ⟨rfl, u79⟩
        refine comeA (i := 16) rfl (by rfl) (fun K hK => ?_) ?_
        · skip
          go_simp
          have u80 : Up W3 (W76.alloc (.cells #[.string b.rel, .slice ba b.args.length bc] 26)) := Up.al u76 _
          have KY := Blk.new W76 26 #[.string b.rel, .slice ba b.args.length bc]
          replace KX := KX.up (Up.al1 W76 (.cells #[.string b.rel, .slice ba b.args.length bc] 26))
          clear hHeld
          refine hK.out _ _ (by (try dsimp only); exact ⟨(KA3.out.up u80).cell 0, (KA3.out.up u80).cell 1, (KB3.out.up u80).cell 0, (KB3.out.up u80).cell 1, u80⟩) (fun hHeld => ?_)
          clear hK K
          try simp only [Act.put, List.setIfInBounds_toArray, List.set_cons_zero, List.set_cons_succ]
          generalize W76.alloc (.cells #[.string b.rel, .slice ba b.args.length bc] 26) = W80 at *
          refine comeC (i := 11) rfl (by kernel_rfl) (by rfl) (fun K hK => ?_)
          go_simp
          go_at_call 7
          refine (cmpK (HT3.out.up u80) (HA3.out.up u80) (HB3.out.up u80) hza hzb hab).mono ?_
          rintro e W81 ⟨rfl, b9⟩
          have u81 : Up W3 W81 := Up.tr u80 b9
          replace KX := KX.up b9
          replace KY := KY.up b9
          clear hHeld b9
          go_wp2_with fail
          refine hK.out _ _ (by (try dsimp only); exact ⟨(KA3.out.up u81).cell 0, (KA3.out.up u81).cell 1, (KB3.out.up u81).cell 0, (KB3.out.up u81).cell 1, u81⟩) (fun hHeld => ?_)
          clear hK K
          try simp only [Act.put, List.setIfInBounds_toArray, List.set_cons_zero, List.set_cons_succ]
          refine takeW (i := 12) (v := ?_) rfl (by kernel_rfl) (by kernel_rfl) (by kernel_rfl) (fun _ _ _ h => h) (by rfl) (by assumption) ?_ ?_
          rotate_left
          · (intro w9 hSw; (try dsimp only at hSw); go_simp; (try with_reducible rfl))
          simp only [Act.put, List.setIfInBounds_toArray, List.set_cons_zero, List.set_cons_succ]
          refine comeC (i := 17) rfl (by kernel_rfl) (by rfl) (fun K hK => ?_)
          go_simp
          go_at_call 8
          refine (sameK1 (sf_one KX (HA3.out.up u81)) (sf_one KY (HB3.out.up u81)) hsm).mono ?_
          rintro e W82 ⟨rfl, b9⟩
          have u82 : Up W3 W82 := Up.tr u81 b9
          clear hHeld b9
          go_wp2_with fail
          refine hK.out _ _ (by (try dsimp only); exact ⟨(KA3.out.up u82).cell 0, (KA3.out.up u82).cell 1, (KB3.out.up u82).cell 0, (KB3.out.up u82).cell 1, u82⟩) (fun hHeld => ?_)
          clear hK K
          try simp only [Act.put, List.setIfInBounds_toArray, List.set_cons_zero, List.set_cons_succ]
          refine takeW (i := 18) (v := ?_) rfl (by kernel_rfl) (by kernel_rfl) (by kernel_rfl) (fun _ _ _ h => h) (by rfl) (by assumption) ?_ ?_
          rotate_left
          · (intro w9 hSw; (try dsimp only at hSw); go_simp; (try with_reducible rfl))
          simp only [Act.put, List.setIfInBounds_toArray, List.set_cons_zero, List.set_cons_succ]
          refine takeW (i := 19) (v := ?_) rfl (by kernel_rfl) (by kernel_rfl) (by kernel_rfl) (fun _ _ _ h => h) (by rfl) (by assumption) ?_ ?_
          rotate_left
          · (intro w9 hSw; (try dsimp only at hSw); go_simp; (try with_reducible rfl))
          simp only [Act.put, List.setIfInBounds_toArray, List.set_cons_zero, List.set_cons_succ]
          refine wpAnyH_done (by kernel_rfl) ?_ _
          go_wp2_with fail
          go_meet
          case rel => exact ⟨rfl, u82⟩
        exact AllReadyH.nil
      refine comeA (i := 16) rfl (by rfl) (fun K hK => ?_) ?_
      · skip
        go_simp
        have u83 : Up W3 (W68.alloc (.cells #[.string b.rel, .slice ba b.args.length bc] 26)) := Up.al u68 _
        have KY := Blk.new W68 26 #[.string b.rel, .slice ba b.args.length bc]
        clear hHeld
        refine hK.out _ _ (by (try dsimp only); exact ⟨(KA3.out.up u83).cell 0, (KA3.out.up u83).cell 1, (KB3.out.up u83).cell 0, (KB3.out.up u83).cell 1, u83⟩) (fun hHeld => ?_)
        clear hK K
        try simp only [Act.put, List.setIfInBounds_toArray, List.set_cons_zero, List.set_cons_succ]
        generalize W68.alloc (.cells #[.string b.rel, .slice ba b.args.length bc] 26) = W83 at *
        refine wpAnyH_ready (rs := [11, 14]) (by kernel_rfl) (by simp) ?_
        refine comeA (i := 11) rfl (by rfl) (fun K hK => ?_) ?_
        · skip
          go_simp
          go_at_call 7
          refine (cmpK (HT3.out.up u83) (HA3.out.up u83) (HB3.out.up u83) hza hzb hab).mono ?_
          rintro e W84 ⟨rfl, b9⟩
          have u84 : Up W3 W84 := Up.tr u83 b9
          replace KY := KY.up b9
          clear hHeld b9
          go_wp2_with fail
          refine hK.out _ _ (by (try dsimp only); exact ⟨(KA3.out.up u84).cell 0, (KA3.out.up u84).cell 1, (KB3.out.up u84).cell 0, (KB3.out.up u84).cell 1, u84⟩) (fun hHeld => ?_)
          clear hK K
          try simp only [Act.put, List.setIfInBounds_toArray, List.set_cons_zero, List.set_cons_succ]
          refine takeW (i := 12) (v := ?_) rfl (by kernel_rfl) (by kernel_rfl) (by kernel_rfl) (fun _ _ _ h => h) (by rfl) (by assumption) ?_ ?_
          rotate_left
          · (intro w9 hSw; (try dsimp only at hSw); go_simp; (try with_reducible rfl))
          simp only [Act.put, List.setIfInBounds_toArray, List.set_cons_zero, List.set_cons_succ]
          refine comeC (i := 14) rfl (by kernel_rfl) (by rfl) (fun K hK => ?_)
          go_simp
          have u85 : Up W3 (W84.alloc (.cells #[.string a.rel, .slice aa a.args.length ac] 26)) := Up.al u84 _
          have KX := Blk.new W84 26 #[.string a.rel, .slice aa a.args.length ac]
          replace KY := KY.up (Up.al1 W84 (.cells #[.string a.rel, .slice aa a.args.length ac] 26))
          clear hHeld
          refine hK.out _ _ (by (try dsimp only); exact ⟨(KA3.out.up u85).cell 0, (KA3.out.up u85).cell 1, (KB3.out.up u85).cell 0, (KB3.out.up u85).cell 1, u85⟩) (fun hHeld => ?_)
          clear hK K
          try simp only [Act.put, List.setIfInBounds_toArray, List.set_cons_zero, List.set_cons_succ]
          generalize W84.alloc (.cells #[.string a.rel, .slice aa a.args.length ac] 26) = W85 at *
          refine comeC (i := 17) rfl (by kernel_rfl) (by rfl) (fun K hK => ?_)
          go_simp
          go_at_call 8
          refine (sameK1 (sf_one KX (HA3.out.up u85)) (sf_one KY (HB3.out.up u85)) hsm).mono ?_
          rintro e W86 ⟨rfl, b9⟩
          have u86 : Up W3 W86 := Up.tr u85 b9
          clear hHeld b9
          go_wp2_with fail
          refine hK.out _ _ (by (try dsimp only); exact ⟨(KA3.out.up u86).cell 0, (KA3.out.up u86).cell 1, (KB3.out.up u86).cell 0, (KB3.out.up u86).cell 1, u86⟩) (fun hHeld => ?_)
          clear hK K
          try simp only [Act.put, List.setIfInBounds_toArray, List.set_cons_zero, List.set_cons_succ]
          refine takeW (i := 18) (v := ?_) rfl (by kernel_rfl) (by kernel_rfl) (by kernel_rfl) (fun _ _ _ h => h) (by rfl) (by assumption) ?_ ?_
          rotate_left
          · (intro w9 hSw; (try dsimp only at hSw); go_simp; (try with_reducible rfl))
          simp only [Act.put, List.setIfInBounds_toArray, List.set_cons_zero, List.set_cons_succ]
          refine takeW (i := 19) (v := ?_) rfl (by kernel_rfl) (by kernel_rfl) (by kernel_rfl) (fun _ _ _ h => h) (by rfl) (by assumption) ?_ ?_
          rotate_left
          · (intro w9 hSw; (try dsimp only at hSw); go_simp; (try with_reducible rfl))
          simp only [Act.put, List.setIfInBounds_toArray, List.set_cons_zero, List.set_cons_succ]
          refine wpAnyH_done (by kernel_rfl) ?_ _
          go_wp2_with fail
          go_meet
          case rel => exact ⟨rfl, u86⟩
        refine comeA (i := 14) rfl (by rfl) (fun K hK => ?_) ?_
        · skip
          go_simp
          have u87 : Up W3 (W83.alloc (.cells #[.string a.rel, .slice aa a.args.length ac] 26)) := Up.al u83 _
          have KX := Blk.new W83 26 #[.string a.rel, .slice aa a.args.length ac]
          replace KY := KY.up (Up.al1 W83 (.cells #[.string a.rel, .slice aa a.args.length ac] 26))
          clear hHeld
          refine hK.out _ _ (by (try dsimp only); exact ⟨(KA3.out.up u87).cell 0, (KA3.out.up u87).cell 1, (KB3.out.up u87).cell 0, (KB3.out.up u87).cell 1, u87⟩) (fun hHeld => ?_)
          clear hK K
          try simp only [Act.put, List.setIfInBounds_toArray, List.set_cons_zero, List.set_cons_succ]
          generalize W83.alloc (.cells #[.string a.rel, .slice aa a.args.length ac] 26) = W87 at *
          refine comeC (i := 11) rfl (by kernel_rfl) (by rfl) (fun K hK => ?_)
          go_simp
          go_at_call 7
          refine (cmpK (HT3.out.up u87) (HA3.out.up u87) (HB3.out.up u87) hza hzb hab).mono ?_
          rintro e W88 ⟨rfl, b9⟩
          have u88 : Up W3 W88 := Up.tr u87 b9
          replace KY := KY.up b9
          replace KX := KX.up b9
          clear hHeld b9
          go_wp2_with fail
          refine hK.out _ _ (by (try dsimp only); exact ⟨(KA3.out.up u88).cell 0, (KA3.out.up u88).cell 1, (KB3.out.up u88).cell 0, (KB3.out.up u88).cell 1, u88⟩) (fun hHeld => ?_)
          clear hK K
          try simp only [Act.put, List.setIfInBounds_toArray, List.set_cons_zero, List.set_cons_succ]
          refine takeW (i := 12) (v := ?_) rfl (by kernel_rfl) (by kernel_rfl) (by kernel_rfl) (fun _ _ _ h => h) (by rfl) (by assumption) ?_ ?_
          rotate_left
          · (intro w9 hSw; (try dsimp only at hSw); go_simp; (try with_reducible rfl))
          simp only [Act.put, List.setIfInBounds_toArray, List.set_cons_zero, List.set_cons_succ]
          refine comeC (i := 17) rfl (by kernel_rfl) (by rfl) (fun K hK => ?_)
          go_simp
          go_at_call 8
          refine (sameK1 (sf_one KX (HA3.out.up u88)) (sf_one KY (HB3.out.up u88)) hsm).mono ?_
          rintro e W89 ⟨rfl, b9⟩
          have u89 : Up W3 W89 := Up.tr u88 b9
          clear hHeld b9
          go_wp2_with fail
          refine hK.out _ _ (by (try dsimp only); exact ⟨(KA3.out.up u89).cell 0, (KA3.out.up u89).cell 1, (KB3.out.up u89).cell 0, (KB3.out.up u89).cell 1, u89⟩) (fun hHeld => ?_)
          clear hK K
          try simp only [Act.put, List.setIfInBounds_toArray, List.set_cons_zero, List.set_cons_succ]
          refine takeW (i := 18) (v := ?_) rfl (by kernel_rfl) (by kernel_rfl) (by kernel_rfl) (fun _ _ _ h => h) (by rfl) (by assumption) ?_ ?_
          rotate_left
          · (intro w9 hSw; (try dsimp only at hSw); go_simp; (try with_reducible rfl))
          simp only [Act.put, List.setIfInBounds_toArray, List.set_cons_zero, List.set_cons_succ]
          refine takeW (i := 19) (v := ?_) rfl (by kernel_rfl) (by kernel_rfl) (by kernel_rfl) (fun _ _ _ h => h) (by rfl) (by assumption) ?_ ?_
          rotate_left
          · (intro w9 hSw; (try dsimp only at hSw); go_simp; (try with_reducible rfl))
          simp only [Act.put, List.setIfInBounds_toArray, List.set_cons_zero, List.set_cons_succ]
          refine wpAnyH_done (by kernel_rfl) ?_ _
          go_wp2_with fail
          go_meet
          case rel => exact ⟨rfl, u89⟩
        exact AllReadyH.nil
      exact AllReadyH.nil
  case rest =>
    obtain ⟨rfl, hup⟩ := hcut
    have hlaw : ¬ 0 < cmpF a b → ¬ 0 < cmpF b d → cmpF a d ≤ 0 := fun h1 h2 => ord_F.tr a b d (by omega) (by omega)
    have HA4 := Lib.hid (HA3.out.up hup); have HB4 := Lib.hid (HB3.out.up hup); have HD4 := Lib.hid (HD3.out.up hup)
    have KA4 := Lib.hid (KA3.out.up hup); have KB4 := Lib.hid (KB3.out.up hup); have KD4 := Lib.hid (KD3.out.up hup)
    have HU4 := Lib.hid (HU3.out.tr hup)
    have HT4 := Lib.hid (HT3.out.up hup)
    clear hup HA3 HB3 HD3 KA3 KB3 KD3 HU3 HT3
    generalize hx : cmpF a b = x at *
    generalize hy : cmpF b d = y at *
    generalize hz : cmpF a d = z at *
    have kA0 := KA4.out.cell0; have kA1 := KA4.out.cell1
    have kB0 := KB4.out.cell0; have kB1 := KB4.out.cell1
    have kD0 := KD4.out.cell0; have kD1 := KD4.out.cell1
    go_wp2_with fail
    clear kA0 kA1 kB0 kB1 kD0 kD1
    refine (cmpK HT4.out HA4.out HB4.out hza hzb hx).mono ?_
    rintro e w34 ⟨rfl, b9⟩
    have HA5 := Lib.hid (HA4.out.up b9); have KA5 := Lib.hid (KA4.out.up b9)
    have HB5 := Lib.hid (HB4.out.up b9); have KB5 := Lib.hid (KB4.out.up b9)
    have HD5 := Lib.hid (HD4.out.up b9); have KD5 := Lib.hid (KD4.out.up b9)
    have HU5 := Lib.hid (HU4.out.tr b9); have HT5 := Lib.hid (HT4.out.up b9)
    clear b9 HA4 HB4 HD4 KA4 KB4 KD4 HU4 HT4
    by_cases h1 : 0 < x
    · have hd : decide (0 < x) = true := decide_eq_true h1
      go_wp2
      go_ret
      first | exact ⟨rfl, HU5.out⟩ | exact ⟨ret_bool hd, HU5.out⟩
    have hd : decide (0 < x) = false := decide_eq_false h1
    have kA0 := KA5.out.cell0; have kA1 := KA5.out.cell1
    have kB0 := KB5.out.cell0; have kB1 := KB5.out.cell1
    have kD0 := KD5.out.cell0; have kD1 := KD5.out.cell1
    go_wp2_with fail
    clear kA0 kA1 kB0 kB1 kD0 kD1
    refine (cmpK HT5.out HB5.out HD5.out hzb hzd hy).mono ?_
    rintro e w35 ⟨rfl, b9⟩
    have HA6 := Lib.hid (HA5.out.up b9); have KA6 := Lib.hid (KA5.out.up b9)
    have HB6 := Lib.hid (HB5.out.up b9); have KB6 := Lib.hid (KB5.out.up b9)
    have HD6 := Lib.hid (HD5.out.up b9); have KD6 := Lib.hid (KD5.out.up b9)
    have HU6 := Lib.hid (HU5.out.tr b9); have HT6 := Lib.hid (HT5.out.up b9)
    clear b9 HA5 HB5 HD5 KA5 KB5 KD5 HU5 HT5
    by_cases h2 : 0 < y
    · have hd2 : decide (0 < y) = true := decide_eq_true h2
      go_wp2
      go_ret
      first | exact ⟨rfl, HU6.out⟩ | exact ⟨ret_bool hd2, HU6.out⟩
    have hd2 : decide (0 < y) = false := decide_eq_false h2
    have kA0 := KA6.out.cell0; have kA1 := KA6.out.cell1
    have kB0 := KB6.out.cell0; have kB1 := KB6.out.cell1
    have kD0 := KD6.out.cell0; have kD1 := KD6.out.cell1
    go_wp2_with fail
    clear kA0 kA1 kB0 kB1 kD0 kD1
    refine (cmpK HT6.out HA6.out HD6.out hza hzd hz).mono ?_
    rintro e w36 ⟨rfl, b9⟩
    have HA7 := Lib.hid (HA6.out.up b9); have KA7 := Lib.hid (KA6.out.up b9)
    have HB7 := Lib.hid (HB6.out.up b9); have KB7 := Lib.hid (KB6.out.up b9)
    have HD7 := Lib.hid (HD6.out.up b9); have KD7 := Lib.hid (KD6.out.up b9)
    have HU7 := Lib.hid (HU6.out.tr b9); have HT7 := Lib.hid (HT6.out.up b9)
    clear b9 HA6 HB6 HD6 KA6 KB6 KD6 HU6 HT6
    have h3 := hlaw h1 h2
    have hd3 : decide (z ≤ 0) = true := decide_eq_true h3
    go_wp2
    go_ret
    first | exact ⟨rfl, HU7.out⟩ | exact ⟨ret_bool hd3, HU7.out⟩
end Go.Proofs.YtgpgeegpaaoakaaDoor
