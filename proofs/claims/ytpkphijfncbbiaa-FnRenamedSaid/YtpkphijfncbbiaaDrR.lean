/- A condition that is drawn beside a renaming; of the renaming nothing is said. -/
import Derived.Test.YtpkphijfncbbiaaDr7
import Derived.Test.YtpkphijfncbbiaaRg
namespace Go.Proofs.Ytpkphijfncbbiaa
open Go.RowKit
attribute [local go_sem ↓] Go.wp_at_zero Go.wp_at_succ
set_option linter.unusedVariables false
set_option linter.unusedSimpArgs false
theorem AC.args3 {w : World} {lo hi xc : Nat} {xa : Option Addr} {c : CondV} (h : AC w lo hi (.agg #[.int .i64 c.kind, .string c.pat.rel, .slice xa c.pat.args.length xc, .string c.left, .string c.right]) c) : TX w lo hi (.slice xa c.pat.args.length xc) c.pat.args := by
  obtain ⟨_, e9, av, e8, htx⟩ := h
  subst e8
  injection e9 with e9
  have e7 : Value.slice xa c.pat.args.length xc = av := by have := congrArg (fun q => q[2]?) e9; simpa using this
  rw [e7]; exact htx
set_option maxHeartbeats 4000000 in
set_option maxRecDepth 100000 in
theorem cDrawRen {v : Value} {L : List Int} {lo hi : Nat} {w : World} (h : Ob BX w lo hi v L) (hok : ∀ n ∈ L, okB n) (hl : L.length ≤ 4096) :
    Calls Try.prog 19 #[v] w fun e w' => ∃ v' vb, e = .returned (.tuple #[v', vb]) ∧ ∃ x, Ob AC w' w.heap.size w'.heap.size v' x ∧ okCW x ∧ Up w w' := by
  have KR := Lib.hid (Blk.new w 43 #[.int .i64 0, .string ⟨#[]⟩, .slice none 0 0, .string ⟨#[]⟩, .string ⟨#[]⟩])
  have hb0 : Up w (w.alloc (.cells #[.int .i64 0, .string ⟨#[]⟩, .slice none 0 0, .string ⟨#[]⟩, .string ⟨#[]⟩] 43)) := Up.al1 _ _
  have HH := Lib.hid (h.up hb0)
  have HB := Lib.hid hb0
  have hws : (w.alloc (.cells #[.int .i64 0, .string ⟨#[]⟩, .slice none 0 0, .string ⟨#[]⟩, .string ⟨#[]⟩] 43)).heap.size = w.heap.size + 1 := by simp
  clear h hb0
  go_enter Try.func19, Try.ntmps19
  go_wp2_with fail
  generalize (w.alloc (.cells #[.int .i64 0, .string ⟨#[]⟩, .slice none 0 0, .string ⟨#[]⟩, .string ⟨#[]⟩] 43)) = W at *
  refine (cNew HH.out hok hl).mono ?_
  rintro e w1 ⟨g, rfl, hg, hc, b1⟩
  have KR1 := Lib.hid (KR.out.up b1)
  have hz1 := b1.size
  have HB1 := Lib.hid b1
  have hgl := hc.lt
  clear b1 KR
  go_upto_region 2 with fail
  have hdr := (Up.rf w1).dr
  have HD0 := Lib.hid (Dr.of hc hdr)
  have KR0 := Lib.hid (KR1.out.up hdr)
  clear hdr
  refine wp_region_held_drew (S := fun _ => True) (by kernel_rfl) trivial (fun hHeld => ?_)
  refine takeW (i := 0) (v := ?_) rfl (by kernel_rfl) (by kernel_rfl) (by kernel_rfl) (fun _ _ _ h => h) (by rfl) (by assumption) ?_ ?_
  rotate_left
  · (intro w9 hSw; (try dsimp only at hSw); go_simp; (try with_reducible rfl))
  simp only [Act.put, List.setIfInBounds_toArray, List.set_cons_zero, List.set_cons_succ]
  refine takeW (i := 2) (v := ?_) rfl (by kernel_rfl) (by kernel_rfl) (by kernel_rfl) (fun _ _ _ h => h) (by rfl) (by assumption) ?_ ?_
  rotate_left
  · (intro w9 hSw; (try dsimp only at hSw); go_simp; (try with_reducible rfl))
  simp only [Act.put, List.setIfInBounds_toArray, List.set_cons_zero, List.set_cons_succ]
  refine takeW (i := 3) (v := ?_) rfl (by kernel_rfl) (by kernel_rfl) (by kernel_rfl) (fun _ _ _ h => h) (by rfl) (by assumption) ?_ ?_
  rotate_left
  · (intro w9 hSw; (try dsimp only at hSw); go_simp; (try with_reducible rfl))
  simp only [Act.put, List.setIfInBounds_toArray, List.set_cons_zero, List.set_cons_succ]
  refine takeW (i := 4) (v := ?_) rfl (by kernel_rfl) (by kernel_rfl) (by kernel_rfl) (fun _ _ _ h => h) (by rfl) (by assumption) ?_ ?_
  rotate_left
  · (intro w9 hSw; (try dsimp only at hSw); go_simp; (try with_reducible rfl))
  simp only [Act.put, List.setIfInBounds_toArray, List.set_cons_zero, List.set_cons_succ]
  refine takeW (i := 5) (v := ?_) rfl (by kernel_rfl) (by kernel_rfl) (by kernel_rfl) (fun _ _ _ h => h) (by rfl) (by assumption) ?_ ?_
  rotate_left
  · (intro w9 hSw; (try dsimp only at hSw); go_simp; (try with_reducible rfl))
  simp only [Act.put, List.setIfInBounds_toArray, List.set_cons_zero, List.set_cons_succ]
  refine takeW (i := 7) (v := ?_) rfl (by kernel_rfl) (by kernel_rfl) (by kernel_rfl) (fun _ _ _ h => h) (by rfl) (by assumption) ?_ ?_
  rotate_left
  · (intro w9 hSw; (try dsimp only at hSw); go_simp; (try with_reducible rfl))
  simp only [Act.put, List.setIfInBounds_toArray, List.set_cons_zero, List.set_cons_succ]
  refine wpAnyH_ready (rs := [1, 6]) (by kernel_rfl) (by simp) ?_
  refine comeA (i := 1) rfl (by rfl) (fun K hK => ?_) ?_
  · skip
    go_simp
    go_at_call 48
    refine (cAnyC HD0.out.1).mono ?_
    rintro e W21 ⟨v3, rfl, x, ho, hx, hd⟩
    obtain ⟨oa, oc, rfl⟩ := ho.1.form
    have HX := Lib.hid hx
    have hzt := HD0.out.2.size
    have HD21 := Lib.hid (HD0.out.tr hd); have KR21 := Lib.hid (KR0.out.dr_ hd (by omega))
    have HT21 := Lib.hid (show Ob TX W21 w1.drew.heap.size W21.heap.size (.slice oa x.pat.args.length oc) x.pat.args from ⟨AC.args3 ho.1, Nat.le_refl _⟩)
    have hgt : g < w1.drew.heap.size := by omega
    have hzl : w.heap.size + 1 ≤ w1.drew.heap.size := by omega
    generalize w1.drew.heap.size = lx at *
    clear ho hx hd hHeld
    go_wp2_with fail
    refine hK.out _ _ trivial (fun hHeld => ?_)
    clear hK K
    try simp only [Act.put, List.setIfInBounds_toArray, List.set_cons_zero, List.set_cons_succ]
    refine wpAnyH_ready (rs := [6, 8]) (by kernel_rfl) (by simp) ?_
    refine comeA (i := 6) rfl (by rfl) (fun K hK => ?_) ?_
    · skip
      go_simp
      have hal := Up.al1 W21 (.cells #[.string ⟨#[63, 120]⟩, .string ⟨#[63, 121]⟩, .string ⟨#[63, 121]⟩, .string ⟨#[63, 120]⟩, .string ⟨#[97]⟩, .string ⟨#[98]⟩, .string ⟨#[63, 120]⟩, .string ⟨#[63, 122]⟩] 47)
      have HD22 := Lib.hid (HD21.out.up hal); have KR22 := Lib.hid (KR21.out.up hal)
      have HT22 := Lib.hid (HT21.out.up hal)
      clear hal
      refine hK.out _ _ trivial (fun hHeld => ?_)
      clear hK K
      try simp only [Act.put, List.setIfInBounds_toArray, List.set_cons_zero, List.set_cons_succ]
      generalize W21.alloc (.cells #[.string ⟨#[63, 120]⟩, .string ⟨#[63, 121]⟩, .string ⟨#[63, 121]⟩, .string ⟨#[63, 120]⟩, .string ⟨#[97]⟩, .string ⟨#[98]⟩, .string ⟨#[63, 120]⟩, .string ⟨#[63, 122]⟩] 47) = W22 at *
      refine comeC (i := 8) rfl (by kernel_rfl) (by rfl) (fun K hK => ?_)
      go_simp
      go_at_call 49
      refine (cBelow (n := 5) HD22.out.1 (by decide) (by decide)).mono ?_
      rintro e W23 ⟨kk, rfl, hk, hd⟩
      have HD23 := Lib.hid (HD22.out.tr hd); have KR23 := Lib.hid (KR22.out.dr_ hd (by omega))
      have HT23 := Lib.hid (HT22.out.dr_ hd (.inr (by omega)))
      have i2 : (0 : Int) ≤ (kk : Int) := by omega
      have i3 : (kk : Int) ≤ 4 := by omega
      clear hd hHeld
      go_wp2_with fail
      refine hK.out _ _ trivial (fun hHeld => ?_)
      clear hK K
      try simp only [Act.put, List.setIfInBounds_toArray, List.set_cons_zero, List.set_cons_succ]
      refine takeW (i := 9) (v := ?_) rfl (by kernel_rfl) (by kernel_rfl) (by kernel_rfl) (fun _ _ _ h => h) (by rfl) (by assumption) ?_ ?_
      rotate_left
      · (intro w9 hSw; (try dsimp only at hSw); go_simp; (try with_reducible rfl))
      simp only [Act.put, List.setIfInBounds_toArray, List.set_cons_zero, List.set_cons_succ]
      refine comeC (i := 10) rfl (by kernel_rfl) (by rfl) (fun K hK => ?_)
      have hU := HB.out.tr (HD23.out.below HB1.out hg)
      obtain ⟨r0, r1, r2, r3, r4⟩ := KR23.out.five
      have q0 := KR23.out.frozen 0
      have q1 := KR23.out.frozen 1
      have q2 := KR23.out.frozen 2
      have q3 := KR23.out.frozen 3
      have q4 := KR23.out.frozen 4
      go_simp
      refine hK.out _ _ trivial (fun hHeld => ?_)
      clear hK K
      try simp only [Act.put, List.setIfInBounds_toArray, List.set_cons_zero, List.set_cons_succ]
      clear r0 r1 r2 r3 r4 q0 q1 q2 q3 q4
      have KR24 := Lib.hid (Blk.st5 KR23.out (.int .i64 x.kind) (.string x.pat.rel) (.slice oa x.pat.args.length oc) (.string x.left) (.string x.right))
      have HU24 := Lib.hid (Up.st5 hU (Nat.le_refl _) (.int .i64 x.kind) (.string x.pat.rel) (.slice oa x.pat.args.length oc) (.string x.left) (.string x.right))
      have hh9 := HT23.out.2
      rw [← size_st5 W23 w.heap.size (.int .i64 x.kind) (.string x.pat.rel) (.slice oa x.pat.args.length oc) (.string x.left) (.string x.right)] at hh9
      have HT24 := Lib.hid (And.intro (HT23.out.1.keep (Stays.st5 W23 (p := w.heap.size) (.inl (by omega)) (.int .i64 x.kind) (.string x.pat.rel) (.slice oa x.pat.args.length oc) (.string x.left) (.string x.right))) hh9)
      clear hh9 hU
      generalize (((((W23.setCell ⟨w.heap.size, 0, none⟩ (.int .i64 x.kind)).setCell ⟨w.heap.size, 1, none⟩ (.string x.pat.rel)).setCell ⟨w.heap.size, 2, none⟩ (.slice oa x.pat.args.length oc)).setCell ⟨w.heap.size, 3, none⟩ (.string x.left)).setCell ⟨w.heap.size, 4, none⟩ (.string x.right)) = W24 at *
      replace HT24 : Hid (Ob TX W24 _ _ _ _) := HT24
      refine takeW (i := 11) (v := ?_) rfl (by kernel_rfl) (by kernel_rfl) (by kernel_rfl) (fun _ _ _ h => h) (by rfl) (by assumption) ?_ ?_
      rotate_left
      · (intro w9 hSw; (try dsimp only at hSw); go_simp; (try with_reducible rfl))
      simp only [Act.put, List.setIfInBounds_toArray, List.set_cons_zero, List.set_cons_succ]
      refine wpAnyH_done (by kernel_rfl) ?_ _
      go_wp2
      obtain ⟨e0, e1, e2, e3, e4⟩ := KR24.out.five
      refine bodyPost_ret (v := .tuple #[.agg #[.int .i64 x.kind, .string x.pat.rel, .slice oa x.pat.args.length oc, .string x.left, .string x.right], _]) (by simp [results, Try.results19, go_sem, e0, e1, e2, e3, e4]; rfl) rfl ?_
      exact ⟨_, _, rfl, x, ⟨⟨[_, _, _, _, _], rfl, _, rfl, HT24.out.1.mono (by omega) HT24.out.2⟩, Nat.le_refl _⟩, HX.out, HU24.out⟩
    refine comeA (i := 8) rfl (by rfl) (fun K hK => ?_) ?_
    · skip
      go_simp
      go_at_call 49
      refine (cBelow (n := 5) HD21.out.1 (by decide) (by decide)).mono ?_
      rintro e W25 ⟨kk, rfl, hk, hd⟩
      have HD25 := Lib.hid (HD21.out.tr hd); have KR25 := Lib.hid (KR21.out.dr_ hd (by omega))
      have HT25 := Lib.hid (HT21.out.dr_ hd (.inr (by omega)))
      have i2 : (0 : Int) ≤ (kk : Int) := by omega
      have i3 : (kk : Int) ≤ 4 := by omega
      clear hd hHeld
      go_wp2_with fail
      refine hK.out _ _ trivial (fun hHeld => ?_)
      clear hK K
      try simp only [Act.put, List.setIfInBounds_toArray, List.set_cons_zero, List.set_cons_succ]
      refine wpAnyH_ready (rs := [6, 10]) (by kernel_rfl) (by simp) ?_
      refine comeA (i := 6) rfl (by rfl) (fun K hK => ?_) ?_
      · skip
        go_simp
        have hal := Up.al1 W25 (.cells #[.string ⟨#[63, 120]⟩, .string ⟨#[63, 121]⟩, .string ⟨#[63, 121]⟩, .string ⟨#[63, 120]⟩, .string ⟨#[97]⟩, .string ⟨#[98]⟩, .string ⟨#[63, 120]⟩, .string ⟨#[63, 122]⟩] 47)
        have HD26 := Lib.hid (HD25.out.up hal); have KR26 := Lib.hid (KR25.out.up hal)
        have HT26 := Lib.hid (HT25.out.up hal)
        clear hal
        refine hK.out _ _ trivial (fun hHeld => ?_)
        clear hK K
        try simp only [Act.put, List.setIfInBounds_toArray, List.set_cons_zero, List.set_cons_succ]
        generalize W25.alloc (.cells #[.string ⟨#[63, 120]⟩, .string ⟨#[63, 121]⟩, .string ⟨#[63, 121]⟩, .string ⟨#[63, 120]⟩, .string ⟨#[97]⟩, .string ⟨#[98]⟩, .string ⟨#[63, 120]⟩, .string ⟨#[63, 122]⟩] 47) = W26 at *
        refine takeW (i := 9) (v := ?_) rfl (by kernel_rfl) (by kernel_rfl) (by kernel_rfl) (fun _ _ _ h => h) (by rfl) (by assumption) ?_ ?_
        rotate_left
        · (intro w9 hSw; (try dsimp only at hSw); go_simp; (try with_reducible rfl))
        simp only [Act.put, List.setIfInBounds_toArray, List.set_cons_zero, List.set_cons_succ]
        refine comeC (i := 10) rfl (by kernel_rfl) (by rfl) (fun K hK => ?_)
        have hU := HB.out.tr (HD26.out.below HB1.out hg)
        obtain ⟨r0, r1, r2, r3, r4⟩ := KR26.out.five
        have q0 := KR26.out.frozen 0
        have q1 := KR26.out.frozen 1
        have q2 := KR26.out.frozen 2
        have q3 := KR26.out.frozen 3
        have q4 := KR26.out.frozen 4
        go_simp
        refine hK.out _ _ trivial (fun hHeld => ?_)
        clear hK K
        try simp only [Act.put, List.setIfInBounds_toArray, List.set_cons_zero, List.set_cons_succ]
        clear r0 r1 r2 r3 r4 q0 q1 q2 q3 q4
        have KR27 := Lib.hid (Blk.st5 KR26.out (.int .i64 x.kind) (.string x.pat.rel) (.slice oa x.pat.args.length oc) (.string x.left) (.string x.right))
        have HU27 := Lib.hid (Up.st5 hU (Nat.le_refl _) (.int .i64 x.kind) (.string x.pat.rel) (.slice oa x.pat.args.length oc) (.string x.left) (.string x.right))
        have hh9 := HT26.out.2
        rw [← size_st5 W26 w.heap.size (.int .i64 x.kind) (.string x.pat.rel) (.slice oa x.pat.args.length oc) (.string x.left) (.string x.right)] at hh9
        have HT27 := Lib.hid (And.intro (HT26.out.1.keep (Stays.st5 W26 (p := w.heap.size) (.inl (by omega)) (.int .i64 x.kind) (.string x.pat.rel) (.slice oa x.pat.args.length oc) (.string x.left) (.string x.right))) hh9)
        clear hh9 hU
        generalize (((((W26.setCell ⟨w.heap.size, 0, none⟩ (.int .i64 x.kind)).setCell ⟨w.heap.size, 1, none⟩ (.string x.pat.rel)).setCell ⟨w.heap.size, 2, none⟩ (.slice oa x.pat.args.length oc)).setCell ⟨w.heap.size, 3, none⟩ (.string x.left)).setCell ⟨w.heap.size, 4, none⟩ (.string x.right)) = W27 at *
        replace HT27 : Hid (Ob TX W27 _ _ _ _) := HT27
        refine takeW (i := 11) (v := ?_) rfl (by kernel_rfl) (by kernel_rfl) (by kernel_rfl) (fun _ _ _ h => h) (by rfl) (by assumption) ?_ ?_
        rotate_left
        · (intro w9 hSw; (try dsimp only at hSw); go_simp; (try with_reducible rfl))
        simp only [Act.put, List.setIfInBounds_toArray, List.set_cons_zero, List.set_cons_succ]
        refine wpAnyH_done (by kernel_rfl) ?_ _
        go_wp2
        obtain ⟨e0, e1, e2, e3, e4⟩ := KR27.out.five
        refine bodyPost_ret (v := .tuple #[.agg #[.int .i64 x.kind, .string x.pat.rel, .slice oa x.pat.args.length oc, .string x.left, .string x.right], _]) (by simp [results, Try.results19, go_sem, e0, e1, e2, e3, e4]; rfl) rfl ?_
        exact ⟨_, _, rfl, x, ⟨⟨[_, _, _, _, _], rfl, _, rfl, HT27.out.1.mono (by omega) HT27.out.2⟩, Nat.le_refl _⟩, HX.out, HU27.out⟩
      refine comeA (i := 10) rfl (by rfl) (fun K hK => ?_) ?_
      · skip
        have hU := HB.out.tr (HD25.out.below HB1.out hg)
        obtain ⟨r0, r1, r2, r3, r4⟩ := KR25.out.five
        have q0 := KR25.out.frozen 0
        have q1 := KR25.out.frozen 1
        have q2 := KR25.out.frozen 2
        have q3 := KR25.out.frozen 3
        have q4 := KR25.out.frozen 4
        go_simp
        refine hK.out _ _ trivial (fun hHeld => ?_)
        clear hK K
        try simp only [Act.put, List.setIfInBounds_toArray, List.set_cons_zero, List.set_cons_succ]
        clear r0 r1 r2 r3 r4 q0 q1 q2 q3 q4
        have KR28 := Lib.hid (Blk.st5 KR25.out (.int .i64 x.kind) (.string x.pat.rel) (.slice oa x.pat.args.length oc) (.string x.left) (.string x.right))
        have HU28 := Lib.hid (Up.st5 hU (Nat.le_refl _) (.int .i64 x.kind) (.string x.pat.rel) (.slice oa x.pat.args.length oc) (.string x.left) (.string x.right))
        have hh9 := HT25.out.2
        rw [← size_st5 W25 w.heap.size (.int .i64 x.kind) (.string x.pat.rel) (.slice oa x.pat.args.length oc) (.string x.left) (.string x.right)] at hh9
        have HT28 := Lib.hid (And.intro (HT25.out.1.keep (Stays.st5 W25 (p := w.heap.size) (.inl (by omega)) (.int .i64 x.kind) (.string x.pat.rel) (.slice oa x.pat.args.length oc) (.string x.left) (.string x.right))) hh9)
        clear hh9 hU
        generalize (((((W25.setCell ⟨w.heap.size, 0, none⟩ (.int .i64 x.kind)).setCell ⟨w.heap.size, 1, none⟩ (.string x.pat.rel)).setCell ⟨w.heap.size, 2, none⟩ (.slice oa x.pat.args.length oc)).setCell ⟨w.heap.size, 3, none⟩ (.string x.left)).setCell ⟨w.heap.size, 4, none⟩ (.string x.right)) = W28 at *
        replace HT28 : Hid (Ob TX W28 _ _ _ _) := HT28
        refine comeC (i := 6) rfl (by kernel_rfl) (by rfl) (fun K hK => ?_)
        go_simp
        have hal := Up.al1 W28 (.cells #[.string ⟨#[63, 120]⟩, .string ⟨#[63, 121]⟩, .string ⟨#[63, 121]⟩, .string ⟨#[63, 120]⟩, .string ⟨#[97]⟩, .string ⟨#[98]⟩, .string ⟨#[63, 120]⟩, .string ⟨#[63, 122]⟩] 47)
        have HU29 := Lib.hid (HU28.out.tr hal); have KR29 := Lib.hid (KR28.out.up hal)
        have HT29 := Lib.hid (HT28.out.up hal)
        clear hal
        refine hK.out _ _ trivial (fun hHeld => ?_)
        clear hK K
        try simp only [Act.put, List.setIfInBounds_toArray, List.set_cons_zero, List.set_cons_succ]
        generalize W28.alloc (.cells #[.string ⟨#[63, 120]⟩, .string ⟨#[63, 121]⟩, .string ⟨#[63, 121]⟩, .string ⟨#[63, 120]⟩, .string ⟨#[97]⟩, .string ⟨#[98]⟩, .string ⟨#[63, 120]⟩, .string ⟨#[63, 122]⟩] 47) = W29 at *
        refine takeW (i := 9) (v := ?_) rfl (by kernel_rfl) (by kernel_rfl) (by kernel_rfl) (fun _ _ _ h => h) (by rfl) (by assumption) ?_ ?_
        rotate_left
        · (intro w9 hSw; (try dsimp only at hSw); go_simp; (try with_reducible rfl))
        simp only [Act.put, List.setIfInBounds_toArray, List.set_cons_zero, List.set_cons_succ]
        refine takeW (i := 11) (v := ?_) rfl (by kernel_rfl) (by kernel_rfl) (by kernel_rfl) (fun _ _ _ h => h) (by rfl) (by assumption) ?_ ?_
        rotate_left
        · (intro w9 hSw; (try dsimp only at hSw); go_simp; (try with_reducible rfl))
        simp only [Act.put, List.setIfInBounds_toArray, List.set_cons_zero, List.set_cons_succ]
        refine wpAnyH_done (by kernel_rfl) ?_ _
        go_wp2
        obtain ⟨e0, e1, e2, e3, e4⟩ := KR29.out.five
        refine bodyPost_ret (v := .tuple #[.agg #[.int .i64 x.kind, .string x.pat.rel, .slice oa x.pat.args.length oc, .string x.left, .string x.right], _]) (by simp [results, Try.results19, go_sem, e0, e1, e2, e3, e4]; rfl) rfl ?_
        exact ⟨_, _, rfl, x, ⟨⟨[_, _, _, _, _], rfl, _, rfl, HT29.out.1.mono (by omega) HT29.out.2⟩, Nat.le_refl _⟩, HX.out, HU29.out⟩
      exact AllReadyH.nil
    exact AllReadyH.nil
  refine comeA (i := 6) rfl (by rfl) (fun K hK => ?_) ?_
  · skip
    go_simp
    have hal := (Up.al1 w1 (.cells #[.string ⟨#[63, 120]⟩, .string ⟨#[63, 121]⟩, .string ⟨#[63, 121]⟩, .string ⟨#[63, 120]⟩, .string ⟨#[97]⟩, .string ⟨#[98]⟩, .string ⟨#[63, 120]⟩, .string ⟨#[63, 122]⟩] 47)).dr
    have HD30 := Lib.hid (Dr.of hc hal); have KR30 := Lib.hid (KR1.out.up hal)
    clear hal
    refine hK.out _ _ trivial (fun hHeld => ?_)
    clear hK K
    try simp only [Act.put, List.setIfInBounds_toArray, List.set_cons_zero, List.set_cons_succ]
    generalize (w1.alloc (.cells #[.string ⟨#[63, 120]⟩, .string ⟨#[63, 121]⟩, .string ⟨#[63, 121]⟩, .string ⟨#[63, 120]⟩, .string ⟨#[97]⟩, .string ⟨#[98]⟩, .string ⟨#[63, 120]⟩, .string ⟨#[63, 122]⟩] 47)).drew = W30 at *
    refine comeC (i := 1) rfl (by kernel_rfl) (by rfl) (fun K hK => ?_)
    go_simp
    go_at_call 48
    refine (cAnyC HD30.out.1).mono ?_
    rintro e W31 ⟨v3, rfl, x, ho, hx, hd⟩
    obtain ⟨oa, oc, rfl⟩ := ho.1.form
    have HX := Lib.hid hx
    have hzt := HD30.out.2.size
    have HD31 := Lib.hid (HD30.out.tr hd); have KR31 := Lib.hid (KR30.out.dr_ hd (by omega))
    have HT31 := Lib.hid (show Ob TX W31 W30.heap.size W31.heap.size (.slice oa x.pat.args.length oc) x.pat.args from ⟨AC.args3 ho.1, Nat.le_refl _⟩)
    have hgt : g < W30.heap.size := by omega
    have hzl : w.heap.size + 1 ≤ W30.heap.size := by omega
    generalize W30.heap.size = lx at *
    clear ho hx hd hHeld
    go_wp2_with fail
    refine hK.out _ _ trivial (fun hHeld => ?_)
    clear hK K
    try simp only [Act.put, List.setIfInBounds_toArray, List.set_cons_zero, List.set_cons_succ]
    refine comeC (i := 8) rfl (by kernel_rfl) (by rfl) (fun K hK => ?_)
    go_simp
    go_at_call 49
    refine (cBelow (n := 5) HD31.out.1 (by decide) (by decide)).mono ?_
    rintro e W32 ⟨kk, rfl, hk, hd⟩
    have HD32 := Lib.hid (HD31.out.tr hd); have KR32 := Lib.hid (KR31.out.dr_ hd (by omega))
    have HT32 := Lib.hid (HT31.out.dr_ hd (.inr (by omega)))
    have i2 : (0 : Int) ≤ (kk : Int) := by omega
    have i3 : (kk : Int) ≤ 4 := by omega
    clear hd hHeld
    go_wp2_with fail
    refine hK.out _ _ trivial (fun hHeld => ?_)
    clear hK K
    try simp only [Act.put, List.setIfInBounds_toArray, List.set_cons_zero, List.set_cons_succ]
    refine takeW (i := 9) (v := ?_) rfl (by kernel_rfl) (by kernel_rfl) (by kernel_rfl) (fun _ _ _ h => h) (by rfl) (by assumption) ?_ ?_
    rotate_left
    · (intro w9 hSw; (try dsimp only at hSw); go_simp; (try with_reducible rfl))
    simp only [Act.put, List.setIfInBounds_toArray, List.set_cons_zero, List.set_cons_succ]
    refine comeC (i := 10) rfl (by kernel_rfl) (by rfl) (fun K hK => ?_)
    have hU := HB.out.tr (HD32.out.below HB1.out hg)
    obtain ⟨r0, r1, r2, r3, r4⟩ := KR32.out.five
    have q0 := KR32.out.frozen 0
    have q1 := KR32.out.frozen 1
    have q2 := KR32.out.frozen 2
    have q3 := KR32.out.frozen 3
    have q4 := KR32.out.frozen 4
    go_simp
    refine hK.out _ _ trivial (fun hHeld => ?_)
    clear hK K
    try simp only [Act.put, List.setIfInBounds_toArray, List.set_cons_zero, List.set_cons_succ]
    clear r0 r1 r2 r3 r4 q0 q1 q2 q3 q4
    have KR33 := Lib.hid (Blk.st5 KR32.out (.int .i64 x.kind) (.string x.pat.rel) (.slice oa x.pat.args.length oc) (.string x.left) (.string x.right))
    have HU33 := Lib.hid (Up.st5 hU (Nat.le_refl _) (.int .i64 x.kind) (.string x.pat.rel) (.slice oa x.pat.args.length oc) (.string x.left) (.string x.right))
    have hh9 := HT32.out.2
    rw [← size_st5 W32 w.heap.size (.int .i64 x.kind) (.string x.pat.rel) (.slice oa x.pat.args.length oc) (.string x.left) (.string x.right)] at hh9
    have HT33 := Lib.hid (And.intro (HT32.out.1.keep (Stays.st5 W32 (p := w.heap.size) (.inl (by omega)) (.int .i64 x.kind) (.string x.pat.rel) (.slice oa x.pat.args.length oc) (.string x.left) (.string x.right))) hh9)
    clear hh9 hU
    generalize (((((W32.setCell ⟨w.heap.size, 0, none⟩ (.int .i64 x.kind)).setCell ⟨w.heap.size, 1, none⟩ (.string x.pat.rel)).setCell ⟨w.heap.size, 2, none⟩ (.slice oa x.pat.args.length oc)).setCell ⟨w.heap.size, 3, none⟩ (.string x.left)).setCell ⟨w.heap.size, 4, none⟩ (.string x.right)) = W33 at *
    replace HT33 : Hid (Ob TX W33 _ _ _ _) := HT33
    refine takeW (i := 11) (v := ?_) rfl (by kernel_rfl) (by kernel_rfl) (by kernel_rfl) (fun _ _ _ h => h) (by rfl) (by assumption) ?_ ?_
    rotate_left
    · (intro w9 hSw; (try dsimp only at hSw); go_simp; (try with_reducible rfl))
    simp only [Act.put, List.setIfInBounds_toArray, List.set_cons_zero, List.set_cons_succ]
    refine wpAnyH_done (by kernel_rfl) ?_ _
    go_wp2
    obtain ⟨e0, e1, e2, e3, e4⟩ := KR33.out.five
    refine bodyPost_ret (v := .tuple #[.agg #[.int .i64 x.kind, .string x.pat.rel, .slice oa x.pat.args.length oc, .string x.left, .string x.right], _]) (by simp [results, Try.results19, go_sem, e0, e1, e2, e3, e4]; rfl) rfl ?_
    exact ⟨_, _, rfl, x, ⟨⟨[_, _, _, _, _], rfl, _, rfl, HT33.out.1.mono (by omega) HT33.out.2⟩, Nat.le_refl _⟩, HX.out, HU33.out⟩
  exact AllReadyH.nil
end Go.Proofs.Ytpkphijfncbbiaa
