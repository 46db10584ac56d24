/- The walk of the law FnRenamed: for every input the call returns true and nothing that was there has turned. -/
import Derived.Deep.DeepCutAuto
import Derived.Test.YtpkphijfncbbiaaDr2
import Derived.Test.YtpkphijfncbbiaaDrR
import Derived.Test.YtpkphijfncbbiaaRen2
import Derived.Test.YtpkphijfncbbiaaCond2
import Derived.Test.YtpkphijfncbbiaaCVars
import Derived.Test.YtpkphijfncbbiaaPlR
namespace Go.Proofs.Ytpkphijfncbbiaa
open Go.RowKit
attribute [local go_sem ↓] Go.wp_at_zero Go.wp_at_succ
set_option linter.unusedVariables false
set_option linter.unusedSimpArgs false
theorem sp_three {w : World} {g : Nat} {t : TypeId} {a a' b b' c c' : ByteArray} (h : Blk w g t #[.string a, .string a', .string b, .string b', .string c, .string c']) :
    Ob SP w 0 w.heap.size (.slice (some ⟨g, 0, none⟩) 3 3) [(a, a'), (b, b'), (c, c')] := by
  refine ⟨⟨some ⟨g, 0, none⟩, 3, rfl, Nat.le_refl _, by simp [maxLen], fun _ => ⟨g, 0, rfl, Nat.zero_le _, h.lt, fun i hi => ?_⟩⟩, Nat.le_refl _⟩
  have hi' : i < 3 := by simpa using hi
  rcases i with _ | _ | _ | i
  · exact ⟨[.string a, .string a'], rfl, fun j hj => by
      rcases j with _ | _ | j
      · exact h.cell 0
      · exact h.cell 1
      · omega, rfl⟩
  · exact ⟨[.string b, .string b'], rfl, fun j hj => by
      rcases j with _ | _ | j
      · exact h.cell 2
      · exact h.cell 3
      · omega, rfl⟩
  · exact ⟨[.string c, .string c'], rfl, fun j hj => by
      rcases j with _ | _ | j
      · exact h.cell 4
      · exact h.cell 5
      · omega, rfl⟩
  · omega
theorem tsum_le8 {L : List ByteArray} {n : Nat} (h : ∀ s ∈ L, s.size ≤ n) : tsum L ≤ L.length * n := by
  induction L with
  | nil => simp [tsum]
  | cons a r ih =>
    have h1 := ih fun s hs => h s (by simp [hs])
    have h2 := h a (by simp)
    simp only [tsum, List.length_cons, Nat.add_mul]
    omega
theorem renT_9 {t : ByteArray} (h : t.size ≤ 9) : (renT toR t).size ≤ 9 := by
  rcases ren_cases t with ⟨-, e⟩ | ⟨-, e⟩ | ⟨-, e⟩ | ⟨-, -, -, e⟩ <;> rw [e]
  · decide
  · decide
  · decide
  · exact h
theorem ren_csz {x : CondV} (h : okCW x) : csz (renC x toR) ≤ 1048576 := by
  obtain ⟨⟨h1, h2, h3⟩, h4, h5⟩ := h
  have e1 := renT_9 (okW_size h4)
  have e2 := renT_9 (okW_size h5)
  have e3 := okW_size h1
  have e4 := tsum_le8 (L := x.pat.args.map (renT toR)) (n := 9) fun s hs => by
    obtain ⟨t, ht, rfl⟩ := List.mem_map.1 hs
    exact renT_9 (okW_size (h2 t ht))
  have e5 : (x.pat.args.map (renT toR)).length = x.pat.args.length := List.length_map _
  show x.pat.rel.size + ((x.pat.args.map (renT toR)).length + tsum (x.pat.args.map (renT toR))) + (renT toR x.left).size + (renT toR x.right).size ≤ 1048576
  omega
theorem okW_good {t : ByteArray} (h : okW t = true) : goodT t := by
  unfold okW at h
  simp only [Bool.and_eq_true, decide_eq_true_eq] at h
  exact ⟨h.2.1, h.2.2.1, h.2.2.2.1⟩
theorem okCW_good {x : CondV} (h : okCW x) : ∀ t ∈ termsC x, goodT t := fun t ht => by
  obtain ⟨⟨h1, h2, h3⟩, h4, h5⟩ := h
  unfold termsC at ht
  simp only [List.mem_append, List.mem_cons, List.not_mem_nil, or_false] at ht
  rcases ht with ht | rfl | rfl
  · exact okW_good (h2 t ht)
  · exact okW_good h4
  · exact okW_good h5
theorem sameCB_self (x : CondV) : sameCB x x = true := by
  unfold sameCB
  simp [sameFB_iff.2 rfl]
theorem renK {v vy : Value} {x z : CondV} {b : Prs} {lo hi lo' hi' : Nat} {w : World} (h : Ob AC w lo hi v x) (hy : Ob SP w lo' hi' vy b) (hz : csz x ≤ 1048576) (hr : renC x b = z) :
    Calls Try.prog 20 #[v, vy] w fun e w' => ∃ a c, e = .returned (.agg #[.int .i64 z.kind, .string z.pat.rel, .slice a z.pat.args.length c, .string z.left, .string z.right]) ∧ Ob AC w' w.heap.size w'.heap.size (.agg #[.int .i64 z.kind, .string z.pat.rel, .slice a z.pat.args.length c, .string z.left, .string z.right]) z ∧ Up w w' := by
  subst hr
  refine (cRename h hy hz).mono ?_
  rintro e w' ⟨v', rfl, ho, hu⟩
  obtain ⟨a, c, rfl⟩ := ho.1.form
  exact ⟨a, c, rfl, ho.ac, hu⟩
theorem sameK2 {v v' : Value} {x : CondV} {lo hi lo' hi' : Nat} {w : World} (h : Ob AC w lo hi v x) (h' : Ob AC w lo' hi' v' x) :
    Calls Try.prog 21 #[v, v'] w fun e w' => e = .returned (.bool true) ∧ Up w w' := by
  have := cSameCond h h'
  rwa [sameCB_self] at this
theorem isCK {v : Value} {x : CondV} {r : Bool} {lo hi : Nat} {w : World} (h : Ob AC w lo hi v x) (hz : csz x ≤ 1048576) (hr : isCondB x = r) :
    Calls Try.prog 22 #[v] w fun e w' => e = .returned (.bool r) ∧ Up w w' := by
  subst hr
  exact cIsCond h hz
theorem isCKS {v : Value} {x : CondV} {r : Bool} {lo hi : Nat} {w : World} (h : Ob AC w lo hi v x) (hz : csz x ≤ 1048576) (hr : isCondB x = r) :
    Calls Try.prog 23 #[v] w fun e w' => e = .returned (.bool r) ∧ Up w w' := by
  subst hr
  exact cIsCondS h hz
theorem cvK {v : Value} {x : CondV} {n : Nat} {lo hi : Nat} {w : World} (h : Ob AC w lo hi v x) (hz : csz x ≤ 1048576) (hn : (varsC x).length = n) :
    Calls Try.prog 24 #[v] w fun e w' => ∃ a c, e = .returned (.slice a n c) ∧ Up w w' := by
  subst hn
  refine (cCondVars h hz).mono ?_
  rintro e w' ⟨v', rfl, ho, hu⟩
  obtain ⟨a, c, rfl⟩ := ho.tx.1.form
  exact ⟨a, c, rfl, hu⟩
theorem cvKS {v : Value} {x : CondV} {n : Nat} {lo hi : Nat} {w : World} (h : Ob AC w lo hi v x) (hz : csz x ≤ 1048576) (hn : (varsC x).length = n) :
    Calls Try.prog 25 #[v] w fun e w' => ∃ a c, e = .returned (.slice a n c) ∧ Up w w' := by
  subst hn
  refine (cCondVarsS h hz).mono ?_
  rintro e w' ⟨v', rfl, ho, hu⟩
  obtain ⟨a, c, rfl⟩ := ho.tx.1.form
  exact ⟨a, c, rfl, hu⟩
set_option maxHeartbeats 20000000 in
set_option maxRecDepth 100000 in
theorem walk_FnRenamed (w : World) (v0 : Value) (x0 : List Int) (m0 : BX w 0 w.heap.size v0 x0) (o0 : ∀ n ∈ x0, okB n) :
    Calls Try.prog 5 #[v0] w fun e w' => e = .returned (.bool true) ∧ Below w.heap.size w w' := by
  have HV : Hid (Ob BX w 0 w.heap.size v0 x0) := ⟨m0, Nat.le_refl _⟩
  have HK := Lib.hid o0
  clear m0 o0
  go_enter Try.func5, Try.ntmps5
  go_wp2_with fail
  refine (cBig HV.out).mono ?_
  rintro e w1 ⟨rfl, rfl⟩
  by_cases hbig : (4096 : Int) < x0.length
  · have hd : decide ((4096 : Int) < x0.length) = true := decide_eq_true hbig
    rw [hd]
    go_wp2
    go_ret
    exact ⟨rfl, Below.refl _ _⟩
  have hd : decide ((4096 : Int) < x0.length) = false := decide_eq_false hbig
  have hl : x0.length ≤ 4096 := by omega
  rw [hd]
  clear hd hbig
  go_wp2_with fail
  refine (cDrawRen HV.out HK.out hl).mono ?_
  rintro e w1 ⟨v1, vb, rfl, x, ho, hx, b1⟩
  have hzx : csz x ≤ 1048576 := by have := okCW_csz hx; omega
  have hzy := ren_csz hx
  have hgood := okCW_good hx
  have hback := ren_back hgood
  have hvars := vars_ren_len hgood
  have hcond := isCond_ren x
  obtain ⟨xa, xc, rfl⟩ := ho.1.form
  generalize hry : renC x toR = y at *
  generalize hnv : (varsC x).length = nv at *
  generalize hic : isCondB x = ic at *
  have HHY := Lib.hid hry; have HBK := Lib.hid hback; have HVY := Lib.hid hvars; have HVX := Lib.hid hnv; have HIY := Lib.hid hcond; have HIX := Lib.hid hic
  clear hx hgood hry hback hvars hnv hcond hic
  have hal : Up w1 (((w1.alloc (.cells #[.int .i64 x.kind, .string x.pat.rel, .slice xa x.pat.args.length xc, .string x.left, .string x.right] 43)).alloc (.cells #[.string ⟨#[63, 120]⟩, .string ⟨#[63, 117, 49]⟩, .string ⟨#[63, 121]⟩, .string ⟨#[63, 117, 50]⟩, .string ⟨#[63, 122]⟩, .string ⟨#[63, 117, 51]⟩] 47)).alloc (.cells #[.string ⟨#[63, 117, 49]⟩, .string ⟨#[63, 120]⟩, .string ⟨#[63, 117, 50]⟩, .string ⟨#[63, 121]⟩, .string ⟨#[63, 117, 51]⟩, .string ⟨#[63, 122]⟩] 47)) := ((Up.al1 _ _).al _).al _
  have HX := Lib.hid (ho.up hal)
  have HXK := Lib.hid (((Blk.new w1 43 #[.int .i64 x.kind, .string x.pat.rel, .slice xa x.pat.args.length xc, .string x.left, .string x.right]).up (Up.al1 _ (.cells #[.string ⟨#[63, 120]⟩, .string ⟨#[63, 117, 49]⟩, .string ⟨#[63, 121]⟩, .string ⟨#[63, 117, 50]⟩, .string ⟨#[63, 122]⟩, .string ⟨#[63, 117, 51]⟩] 47))).up (Up.al1 _ (.cells #[.string ⟨#[63, 117, 49]⟩, .string ⟨#[63, 120]⟩, .string ⟨#[63, 117, 50]⟩, .string ⟨#[63, 121]⟩, .string ⟨#[63, 117, 51]⟩, .string ⟨#[63, 122]⟩] 47)))
  have HTO := Lib.hid (((sp_three (Blk.new (w1.alloc (.cells #[.int .i64 x.kind, .string x.pat.rel, .slice xa x.pat.args.length xc, .string x.left, .string x.right] 43)) 47 #[.string ⟨#[63, 120]⟩, .string ⟨#[63, 117, 49]⟩, .string ⟨#[63, 121]⟩, .string ⟨#[63, 117, 50]⟩, .string ⟨#[63, 122]⟩, .string ⟨#[63, 117, 51]⟩])).up (Up.al1 _ (.cells #[.string ⟨#[63, 117, 49]⟩, .string ⟨#[63, 120]⟩, .string ⟨#[63, 117, 50]⟩, .string ⟨#[63, 121]⟩, .string ⟨#[63, 117, 51]⟩, .string ⟨#[63, 122]⟩] 47))))
  have HBA := Lib.hid (sp_three (Blk.new ((w1.alloc (.cells #[.int .i64 x.kind, .string x.pat.rel, .slice xa x.pat.args.length xc, .string x.left, .string x.right] 43)).alloc (.cells #[.string ⟨#[63, 120]⟩, .string ⟨#[63, 117, 49]⟩, .string ⟨#[63, 121]⟩, .string ⟨#[63, 117, 50]⟩, .string ⟨#[63, 122]⟩, .string ⟨#[63, 117, 51]⟩] 47)) 47 #[.string ⟨#[63, 117, 49]⟩, .string ⟨#[63, 120]⟩, .string ⟨#[63, 117, 50]⟩, .string ⟨#[63, 121]⟩, .string ⟨#[63, 117, 51]⟩, .string ⟨#[63, 122]⟩]))
  have HU := Lib.hid (b1.tr hal)
  clear ho b1 hal HV HK
  go_upto_region 6 with fail
  have hs1 : (w1.alloc (.cells #[.int .i64 x.kind, .string x.pat.rel, .slice xa x.pat.args.length xc, .string x.left, .string x.right] 43)).heap.size = w1.heap.size + 1 := by simp
  have hs2 : ((w1.alloc (.cells #[.int .i64 x.kind, .string x.pat.rel, .slice xa x.pat.args.length xc, .string x.left, .string x.right] 43)).alloc (.cells #[.string ⟨#[63, 120]⟩, .string ⟨#[63, 117, 49]⟩, .string ⟨#[63, 121]⟩, .string ⟨#[63, 117, 50]⟩, .string ⟨#[63, 122]⟩, .string ⟨#[63, 117, 51]⟩] 47)).heap.size = w1.heap.size + 1 + 1 := by simp
  rw [hs2] at HBA
  rw [hs1] at HTO
  generalize (((w1.alloc (.cells #[.int .i64 x.kind, .string x.pat.rel, .slice xa x.pat.args.length xc, .string x.left, .string x.right] 43)).alloc (.cells #[.string ⟨#[63, 120]⟩, .string ⟨#[63, 117, 49]⟩, .string ⟨#[63, 121]⟩, .string ⟨#[63, 117, 50]⟩, .string ⟨#[63, 122]⟩, .string ⟨#[63, 117, 51]⟩] 47)).alloc (.cells #[.string ⟨#[63, 117, 49]⟩, .string ⟨#[63, 120]⟩, .string ⟨#[63, 117, 50]⟩, .string ⟨#[63, 121]⟩, .string ⟨#[63, 117, 51]⟩, .string ⟨#[63, 122]⟩] 47)) = W3 at *
  clear hs1 hs2
  generalize w1.heap.size = px at *
  obtain ⟨r0, r1, r2, r3, r4⟩ := HXK.out.five
  go_wp2_with fail
  clear r0 r1 r2 r3 r4
  refine (renK HX.out HTO.out hzx HHY.out).mono ?_
  rintro e w4 ⟨ya, yc, rfl, hoy, b2⟩
  have b3 := b2.al (.cells #[.int .i64 y.kind, .string y.pat.rel, .slice ya y.pat.args.length yc, .string y.left, .string y.right] 43)
  replace HX := Lib.hid (HX.out.up b3)
  replace HXK := Lib.hid (HXK.out.up b3)
  replace HTO := Lib.hid (HTO.out.up b3)
  replace HBA := Lib.hid (HBA.out.up b3)
  replace HU := Lib.hid (HU.out.tr b3)
  have HY := Lib.hid (hoy.up (Up.al1 w4 (.cells #[.int .i64 y.kind, .string y.pat.rel, .slice ya y.pat.args.length yc, .string y.left, .string y.right] 43)))
  have HYK := Lib.hid (Blk.new w4 43 #[.int .i64 y.kind, .string y.pat.rel, .slice ya y.pat.args.length yc, .string y.left, .string y.right])
  clear hoy b2 b3
  go_upto_region 7 with fail
  generalize w4.heap.size = py at *
  generalize (w4.alloc (.cells #[.int .i64 y.kind, .string y.pat.rel, .slice ya y.pat.args.length yc, .string y.left, .string y.right] 43)) = W7 at *
  have u0 := (Up.rf W7).dr
  refine wp_region_held_drew (S := (fun w' => (w'.cell? ⟨px, 0, none⟩ = some (.int .i64 x.kind) ∧ w'.cell? ⟨px, 1, none⟩ = some (.string x.pat.rel) ∧ w'.cell? ⟨px, 2, none⟩ = some (.slice xa x.pat.args.length xc) ∧ w'.cell? ⟨px, 3, none⟩ = some (.string x.left) ∧ w'.cell? ⟨px, 4, none⟩ = some (.string x.right)) ∧ (w'.cell? ⟨py, 0, none⟩ = some (.int .i64 y.kind) ∧ w'.cell? ⟨py, 1, none⟩ = some (.string y.pat.rel) ∧ w'.cell? ⟨py, 2, none⟩ = some (.slice ya y.pat.args.length yc) ∧ w'.cell? ⟨py, 3, none⟩ = some (.string y.left) ∧ w'.cell? ⟨py, 4, none⟩ = some (.string y.right)) ∧ Up W7 w')) (by kernel_rfl) (by (try dsimp only); exact ⟨(HXK.out.up u0).five, (HYK.out.up u0).five, u0⟩) (fun hHeld => ?_)
  refine takeW (i := 0) (v := ?_) rfl (by kernel_rfl) (by kernel_rfl) (by kernel_rfl) (fun _ _ _ h => h) (by rfl) (by assumption) ?_ ?_
  rotate_left
  · (intro w9 hSw; (try dsimp only at hSw); go_simp; (try with_reducible rfl))
  simp only [Act.put, List.setIfInBounds_toArray, List.set_cons_zero, List.set_cons_succ]
  refine takeW (i := 1) (v := ?_) rfl (by kernel_rfl) (by kernel_rfl) (by kernel_rfl) (fun _ _ _ h => h) (by rfl) (by assumption) ?_ ?_
  rotate_left
  · (intro w9 hSw; (try dsimp only at hSw); go_simp; (try with_reducible rfl))
  simp only [Act.put, List.setIfInBounds_toArray, List.set_cons_zero, List.set_cons_succ]
  refine takeW (i := 3) (v := ?_) rfl (by kernel_rfl) (by kernel_rfl) (by kernel_rfl) (fun _ _ _ h => h) (by rfl) (by assumption) ?_ ?_
  rotate_left
  · (intro w9 hSw; (try dsimp only at hSw); go_simp; (try with_reducible rfl))
  simp only [Act.put, List.setIfInBounds_toArray, List.set_cons_zero, List.set_cons_succ]
  refine comeC (i := 2) rfl (by kernel_rfl) (by rfl) (fun K hK => ?_)
  go_simp
  go_at_call 20
  refine (renK (HY.out.up u0) (HBA.out.up u0) hzy HBK.out).mono ?_
  rintro e w11 ⟨za, zc, rfl, hoz, b9⟩
  have u1 : Up W7 w11 := Up.tr u0 b9
  have HZ := Lib.hid hoz; clear hoz
  clear hHeld b9
  go_wp2_with fail
  refine hK.out _ _ (by (try dsimp only); exact ⟨(HXK.out.up u1).five, (HYK.out.up u1).five, u1⟩) (fun hHeld => ?_)
  clear hK K
  try simp only [Act.put, List.setIfInBounds_toArray, List.set_cons_zero, List.set_cons_succ]
  refine comeC (i := 4) rfl (by kernel_rfl) (by rfl) (fun K hK => ?_)
  go_simp
  go_at_call 21
  refine (sameK2 HZ.out (HX.out.up u1)).mono ?_
  rintro e w12 ⟨rfl, b9⟩
  have u2 : Up W7 w12 := Up.tr u1 b9
  clear hHeld b9
  go_wp2_with fail
  refine hK.out _ _ (by (try dsimp only); exact ⟨(HXK.out.up u2).five, (HYK.out.up u2).five, u2⟩) (fun hHeld => ?_)
  clear hK K
  try simp only [Act.put, List.setIfInBounds_toArray, List.set_cons_zero, List.set_cons_succ]
  refine takeW (i := 5) (v := ?_) rfl (by kernel_rfl) (by kernel_rfl) (by kernel_rfl) (fun _ _ _ h => h) (by rfl) (by assumption) ?_ ?_
  rotate_left
  · (intro w9 hSw; (try dsimp only at hSw); go_simp; (try with_reducible rfl))
  simp only [Act.put, List.setIfInBounds_toArray, List.set_cons_zero, List.set_cons_succ]
  refine takeW (i := 6) (v := ?_) rfl (by kernel_rfl) (by kernel_rfl) (by kernel_rfl) (fun _ _ _ h => h) (by rfl) (by assumption) ?_ ?_
  rotate_left
  · (intro w9 hSw; (try dsimp only at hSw); go_simp; (try with_reducible rfl))
  simp only [Act.put, List.setIfInBounds_toArray, List.set_cons_zero, List.set_cons_succ]
  refine takeW (i := 8) (v := ?_) rfl (by kernel_rfl) (by kernel_rfl) (by kernel_rfl) (fun _ _ _ h => h) (by rfl) (by assumption) ?_ ?_
  rotate_left
  · (intro w9 hSw; (try dsimp only at hSw); go_simp; (try with_reducible rfl))
  simp only [Act.put, List.setIfInBounds_toArray, List.set_cons_zero, List.set_cons_succ]
  refine comeC (i := 7) rfl (by kernel_rfl) (by rfl) (fun K hK => ?_)
  go_simp
  go_at_call 22
  refine (isCK (HY.out.up u2) hzy HIY.out).mono ?_
  rintro e w13 ⟨rfl, b9⟩
  have u3 : Up W7 w13 := Up.tr u2 b9
  clear hHeld b9
  go_wp2_with fail
  refine hK.out _ _ (by (try dsimp only); exact ⟨(HXK.out.up u3).five, (HYK.out.up u3).five, u3⟩) (fun hHeld => ?_)
  clear hK K
  try simp only [Act.put, List.setIfInBounds_toArray, List.set_cons_zero, List.set_cons_succ]
  refine comeC (i := 9) rfl (by kernel_rfl) (by rfl) (fun K hK => ?_)
  go_simp
  go_at_call 23
  refine (isCKS (HX.out.up u3) hzx HIX.out).mono ?_
  rintro e w14 ⟨rfl, b9⟩
  have u4 : Up W7 w14 := Up.tr u3 b9
  clear hHeld b9
  go_wp2_with fail
  refine hK.out _ _ (by (try dsimp only); exact ⟨(HXK.out.up u4).five, (HYK.out.up u4).five, u4⟩) (fun hHeld => ?_)
  clear hK K
  try simp only [Act.put, List.setIfInBounds_toArray, List.set_cons_zero, List.set_cons_succ]
  have hcc : (ic == ic) = true := by simp
  refine takeW (i := 10) (v := ?_) rfl (by kernel_rfl) (by kernel_rfl) (by kernel_rfl) (fun _ _ _ h => h) (by rfl) (by assumption) ?_ ?_
  rotate_left
  · (intro w9 hSw; (try dsimp only at hSw); go_simp; (try with_reducible rfl))
  simp only [Act.put, List.setIfInBounds_toArray, List.set_cons_zero, List.set_cons_succ]
  refine takeW (i := 11) (v := ?_) rfl (by kernel_rfl) (by kernel_rfl) (by kernel_rfl) (fun _ _ _ h => h) (by rfl) (by assumption) ?_ ?_
  rotate_left
  · (intro w9 hSw; (try dsimp only at hSw); go_simp; (try with_reducible rfl))
  simp only [Act.put, List.setIfInBounds_toArray, List.set_cons_zero, List.set_cons_succ]
  refine takeW (i := 12) (v := ?_) rfl (by kernel_rfl) (by kernel_rfl) (by kernel_rfl) (fun _ _ _ h => h) (by rfl) (by assumption) ?_ ?_
  rotate_left
  · (intro w9 hSw; (try dsimp only at hSw); go_simp; (try with_reducible rfl))
  simp only [Act.put, List.setIfInBounds_toArray, List.set_cons_zero, List.set_cons_succ]
  refine takeW (i := 13) (v := ?_) rfl (by kernel_rfl) (by kernel_rfl) (by kernel_rfl) (fun _ _ _ h => h) (by rfl) (by assumption) ?_ ?_
  rotate_left
  · (intro w9 hSw; (try dsimp only at hSw); go_simp; (try with_reducible rfl))
  simp only [Act.put, List.setIfInBounds_toArray, List.set_cons_zero, List.set_cons_succ]
  refine takeW (i := 16) (v := ?_) rfl (by kernel_rfl) (by kernel_rfl) (by kernel_rfl) (fun _ _ _ h => h) (by rfl) (by assumption) ?_ ?_
  rotate_left
  · (intro w9 hSw; (try dsimp only at hSw); go_simp; (try with_reducible rfl))
  simp only [Act.put, List.setIfInBounds_toArray, List.set_cons_zero, List.set_cons_succ]
  refine comeC (i := 14) rfl (by kernel_rfl) (by rfl) (fun K hK => ?_)
  go_simp
  go_at_call 24
  refine (cvK (HY.out.up u4) hzy HVY.out).mono ?_
  rintro e w15 ⟨aa, ac, rfl, b9⟩
  have u5 : Up W7 w15 := Up.tr u4 b9
  clear hHeld b9
  go_wp2_with fail
  refine hK.out _ _ (by (try dsimp only); exact ⟨(HXK.out.up u5).five, (HYK.out.up u5).five, u5⟩) (fun hHeld => ?_)
  clear hK K
  try simp only [Act.put, List.setIfInBounds_toArray, List.set_cons_zero, List.set_cons_succ]
  refine takeW (i := 15) (v := ?_) rfl (by kernel_rfl) (by kernel_rfl) (by kernel_rfl) (fun _ _ _ h => h) (by rfl) (by assumption) ?_ ?_
  rotate_left
  · (intro w9 hSw; (try dsimp only at hSw); go_simp; (try with_reducible rfl))
  simp only [Act.put, List.setIfInBounds_toArray, List.set_cons_zero, List.set_cons_succ]
  refine comeC (i := 17) rfl (by kernel_rfl) (by rfl) (fun K hK => ?_)
  go_simp
  go_at_call 25
  refine (cvKS (HX.out.up u5) hzx HVX.out).mono ?_
  rintro e w16 ⟨ba, bc, rfl, b9⟩
  have u6 : Up W7 w16 := Up.tr u5 b9
  clear hHeld b9
  go_wp2_with fail
  refine hK.out _ _ (by (try dsimp only); exact ⟨(HXK.out.up u6).five, (HYK.out.up u6).five, u6⟩) (fun hHeld => ?_)
  clear hK K
  try simp only [Act.put, List.setIfInBounds_toArray, List.set_cons_zero, List.set_cons_succ]
  refine takeW (i := 18) (v := ?_) rfl (by kernel_rfl) (by kernel_rfl) (by kernel_rfl) (fun _ _ _ h => h) (by rfl) (by assumption) ?_ ?_
  rotate_left
  · (intro w9 hSw; (try dsimp only at hSw); go_simp; (try with_reducible rfl))
  simp only [Act.put, List.setIfInBounds_toArray, List.set_cons_zero, List.set_cons_succ]
  refine takeW (i := 19) (v := ?_) rfl (by kernel_rfl) (by kernel_rfl) (by kernel_rfl) (fun _ _ _ h => h) (by rfl) (by assumption) ?_ ?_
  rotate_left
  · (intro w9 hSw; (try dsimp only at hSw); go_simp; (try with_reducible rfl))
  simp only [Act.put, List.setIfInBounds_toArray, List.set_cons_zero, List.set_cons_succ]
  refine takeW (i := 20) (v := ?_) rfl (by kernel_rfl) (by kernel_rfl) (by kernel_rfl) (fun _ _ _ h => h) (by rfl) (by assumption) ?_ ?_
  rotate_left
  · (intro w9 hSw; (try dsimp only at hSw); go_simp; (try with_reducible rfl))
  simp only [Act.put, List.setIfInBounds_toArray, List.set_cons_zero, List.set_cons_succ]
  refine takeW (i := 21) (v := ?_) rfl (by kernel_rfl) (by kernel_rfl) (by kernel_rfl) (fun _ _ _ h => h) (by rfl) (by assumption) ?_ ?_
  rotate_left
  · (intro w9 hSw; (try dsimp only at hSw); go_simp; (try with_reducible rfl))
  simp only [Act.put, List.setIfInBounds_toArray, List.set_cons_zero, List.set_cons_succ]
  refine wpAnyH_done (by kernel_rfl) ?_ _
  go_wp2
  go_ret
  exact ⟨rfl, HU.out.tr u6⟩
end Go.Proofs.Ytpkphijfncbbiaa
