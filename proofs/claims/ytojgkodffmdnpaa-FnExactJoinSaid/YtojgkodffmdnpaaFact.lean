/- The contracts of the laws' own functions on facts and patterns (size, copy, equality) and of the functions that tell whether two facts or patterns are equal; wherever the lengths can be counted. -/
import Derived.Test.YtojgkodffmdnpaaSame
import Derived.Test.YtojgkodffmdnpaaOb
namespace Go.Proofs.Ytojgkodffmdnpaa
open Go.RowKit
attribute [local go_sem ↓] Go.wp_at_zero Go.wp_at_succ
def fsz (f : FactV) : Nat := f.rel.size + tsz f.args
theorem szv_neg {left : Int} {n : Nat} (h : left < n) : szv left n = -1 := by unfold szv; rw [if_neg (by omega)]
theorem szv_pos {left : Int} {n : Nat} (h : (n : Int) ≤ left) : szv left n = left - n := by unfold szv; rw [if_pos h]
def sameFB (f g : FactV) : Bool := decide (f.rel = g.rel) && sameTB f.args g.args
theorem sameFB_t {f g : FactV} (h : (f.rel.toList == g.rel.toList) = true) : sameFB f g = sameTB f.args g.args := by
  unfold sameFB; rw [str_eq_t h]; simp
theorem sameFB_f {f g : FactV} (h : (f.rel.toList == g.rel.toList) = false) : sameFB f g = false := by
  have := str_eq_f h; unfold sameFB; simp [this]
theorem sameFB_iff {f g : FactV} : sameFB f g = true ↔ f = g := by
  unfold sameFB sameTB; cases f; cases g; simp
set_option maxHeartbeats 400000 in
theorem sz_fact_any (v : Value) (f : FactV) (left : Int) (lo hi : Nat) (w : World) (hv : AG FactC w lo hi v f) (hok : okF f) (h1 : hi ≤ w.heap.size) (h0 : 0 ≤ left) (h2 : left ≤ 1048576) :
    Calls Try.prog 55 #[v, .int .i64 left] w fun e w' => e = .returned (.int .i64 (szv left (fsz f))) ∧ Below w.heap.size w w' := by
  obtain ⟨_, rfl, av, rfl, ht⟩ := hv
  obtain ⟨ho1, ho2⟩ := hok
  unfold okS at ho1
  have HT := Lib.hid ht
  clear ht
  have hbel : Below w.heap.size w (w.alloc (.cells #[.string f.rel, av] 88)) := (Below.refl _ _).alloc (Nat.le_refl _) _
  have HB := Lib.hid hbel
  clear hbel
  go_enter Try.func55, Try.ntmps55
  by_cases hl : (f.rel.size : Int) ≤ left
  · go_wp2_with fail
    refine (szT_any av f.args _ lo hi _ (HT.out.below HB.out h1) ho2 (by omega) (by omega)).mono ?_
    rintro e w1 ⟨rfl, rfl⟩
    by_cases hl2 : ((fsz f : Nat) : Int) ≤ left
    · have HS : Hid (szv (left - f.rel.size) (tsz f.args) = left - fsz f) := by
        unfold fsz at *; unfold Hid; rw [szv_pos (by omega)]; omega
      have HF := Lib.hid (szv_pos hl2)
      have : (0 : Int) ≤ szv (left - f.rel.size) (tsz f.args) := by rw [HS.out]; omega
      go_wp2
      go_ret
      exact ⟨ret_int (by rw [HF.out, HS.out]), HB.out⟩
    · have HS : Hid (szv (left - f.rel.size) (tsz f.args) = -1) := by
        unfold fsz at *; exact szv_neg (by omega)
      have HF := Lib.hid (szv_neg (left := left) (n := fsz f) (by omega))
      have : szv (left - f.rel.size) (tsz f.args) < 0 := by rw [HS.out]; omega
      go_wp2
      go_ret
      exact ⟨ret_int HF.out.symm, HB.out⟩
  · have HF := Lib.hid (szv_neg (left := left) (n := fsz f) (by unfold fsz; omega))
    go_wp2
    go_ret
    exact ⟨ret_int HF.out.symm, HB.out⟩
set_option maxHeartbeats 400000 in
theorem sz_pat_any (v : Value) (f : FactV) (left : Int) (lo hi : Nat) (w : World) (hv : AG FactC w lo hi v f) (hok : okF f) (h1 : hi ≤ w.heap.size) (h0 : 0 ≤ left) (h2 : left ≤ 1048576) :
    Calls Try.prog 46 #[v, .int .i64 left] w fun e w' => e = .returned (.int .i64 (szv left (fsz f))) ∧ Below w.heap.size w w' := by
  obtain ⟨_, rfl, av, rfl, ht⟩ := hv
  obtain ⟨ho1, ho2⟩ := hok
  unfold okS at ho1
  have HT := Lib.hid ht
  clear ht
  have hbel : Below w.heap.size w (w.alloc (.cells #[.string f.rel, av] 24)) := (Below.refl _ _).alloc (Nat.le_refl _) _
  have HB := Lib.hid hbel
  clear hbel
  go_enter Try.func46, Try.ntmps46
  by_cases hl : (f.rel.size : Int) ≤ left
  · go_wp2_with fail
    refine (szT_any av f.args _ lo hi _ (HT.out.below HB.out h1) ho2 (by omega) (by omega)).mono ?_
    rintro e w1 ⟨rfl, rfl⟩
    by_cases hl2 : ((fsz f : Nat) : Int) ≤ left
    · have HS : Hid (szv (left - f.rel.size) (tsz f.args) = left - fsz f) := by
        unfold fsz at *; unfold Hid; rw [szv_pos (by omega)]; omega
      have HF := Lib.hid (szv_pos hl2)
      have : (0 : Int) ≤ szv (left - f.rel.size) (tsz f.args) := by rw [HS.out]; omega
      go_wp2
      go_ret
      exact ⟨ret_int (by rw [HF.out, HS.out]), HB.out⟩
    · have HS : Hid (szv (left - f.rel.size) (tsz f.args) = -1) := by
        unfold fsz at *; exact szv_neg (by omega)
      have HF := Lib.hid (szv_neg (left := left) (n := fsz f) (by omega))
      have : szv (left - f.rel.size) (tsz f.args) < 0 := by rw [HS.out]; omega
      go_wp2
      go_ret
      exact ⟨ret_int HF.out.symm, HB.out⟩
  · have HF := Lib.hid (szv_neg (left := left) (n := fsz f) (by unfold fsz; omega))
    go_wp2
    go_ret
    exact ⟨ret_int HF.out.symm, HB.out⟩
set_option maxHeartbeats 400000 in
theorem to_fact_any (v : Value) (f : FactV) (lo hi : Nat) (w : World) (hv : AG FactC w lo hi v f) (h1 : hi ≤ w.heap.size) (h2 : f.args.length ≤ 1048576) :
    Calls Try.prog 57 #[v] w fun e w' => ∃ v', e = .returned v' ∧ FO 9 w' w.heap.size w'.heap.size v' f ∧ Below w.heap.size w w' := by
  obtain ⟨_, rfl, av, rfl, ht⟩ := hv
  have HT := Lib.hid ht
  clear ht
  go_enter Try.func57, Try.ntmps57
  go_wp2_with fail
  have hb0 : Below w.heap.size w (((w.alloc (.cells #[.string f.rel, av] 88)).alloc (.cells #[.string ⟨#[]⟩, .slice none 0 0] 79)).alloc (.cells #[.string f.rel, .slice none 0 0] 79)) :=
    (((Below.refl _ _).alloc (Nat.le_refl _) _).alloc (by simp) _).alloc (by simp; omega) _
  have b1 : Blk (((w.alloc (.cells #[.string f.rel, av] 88)).alloc (.cells #[.string ⟨#[]⟩, .slice none 0 0] 79)).alloc (.cells #[.string f.rel, .slice none 0 0] 79)) (w.heap.size + 1) 79 #[.string ⟨#[]⟩, .slice none 0 0] := by
    have := (Blk.new (w.alloc (.cells #[.string f.rel, av] 88)) 79 #[.string ⟨#[]⟩, .slice none 0 0]).alloc (.cells #[.string f.rel, .slice none 0 0] 79)
    simpa using this
  have b2 : Blk (((w.alloc (.cells #[.string f.rel, av] 88)).alloc (.cells #[.string ⟨#[]⟩, .slice none 0 0] 79)).alloc (.cells #[.string f.rel, .slice none 0 0] 79)) (w.heap.size + 1 + 1) 79 #[.string f.rel, .slice none 0 0] := by
    have := Blk.new ((w.alloc (.cells #[.string f.rel, av] 88)).alloc (.cells #[.string ⟨#[]⟩, .slice none 0 0] 79)) 79 #[.string f.rel, .slice none 0 0]
    simpa using this
  have hsz : (((w.alloc (.cells #[.string f.rel, av] 88)).alloc (.cells #[.string ⟨#[]⟩, .slice none 0 0] 79)).alloc (.cells #[.string f.rel, .slice none 0 0] 79)).heap.size = w.heap.size + 3 := by simp
  generalize (((w.alloc (.cells #[.string f.rel, av] 88)).alloc (.cells #[.string ⟨#[]⟩, .slice none 0 0] 79)).alloc (.cells #[.string f.rel, .slice none 0 0] 79)) = W3 at *
  refine (toT_any av f.args lo hi _ (HT.out.below hb0 h1) h2 (by omega)).mono ?_
  rintro e w1 ⟨v1, rfl, hv1, hb1⟩
  obtain ⟨a1, cap1, rfl, -⟩ := hv1.tx
  have b1' := b1.below hb1 (by omega)
  have b2' := b2.below hb1 (by omega)
  have e1 := b1'.cell0
  have e2 := b1'.cell1
  have e3 := b2'.cell0
  have e4 := b2'.cell1
  have g1 := b1'.frozen 0
  have g2 := b1'.frozen 1
  have g3 := b2'.frozen 0
  have g4 := b2'.frozen 1
  have HV := Lib.hid hv1
  have HB := Lib.hid ((hb0.mono (Nat.le_refl _)).trans (hb1.mono (by omega)))
  have HS := Lib.hid hsz
  have HK := Lib.hid b1'
  clear hv1 hb1 hb0 b1 b2 b1' b2' hsz
  go_wp2
  have hs := HS.out
  have hB : Below w.heap.size w (((w1.setCell ⟨w.heap.size + 1 + 1, 1, none⟩ (.slice a1 f.args.length cap1)).setCell ⟨w.heap.size + 1, 0, none⟩ (.string f.rel)).setCell ⟨w.heap.size + 1, 1, none⟩ (.slice a1 f.args.length cap1)) :=
    ((HB.out.setCell (by simp; omega) _).setCell (by simp) _).setCell (by simp) _
  have hK : Blk (((w1.setCell ⟨w.heap.size + 1 + 1, 1, none⟩ (.slice a1 f.args.length cap1)).setCell ⟨w.heap.size + 1, 0, none⟩ (.string f.rel)).setCell ⟨w.heap.size + 1, 1, none⟩ (.slice a1 f.args.length cap1)) (w.heap.size + 1) 79 #[.string f.rel, .slice a1 f.args.length cap1] := by
    have := ((HK.out.far (p := ⟨w.heap.size + 1 + 1, 1, none⟩) (by simp) (.slice a1 f.args.length cap1)).set_ 0 (.string f.rel)).set_ 1 (.slice a1 f.args.length cap1)
    simpa using this
  have hz : (((w1.setCell ⟨w.heap.size + 1 + 1, 1, none⟩ (.slice a1 f.args.length cap1)).setCell ⟨w.heap.size + 1, 0, none⟩ (.string f.rel)).setCell ⟨w.heap.size + 1, 1, none⟩ (.slice a1 f.args.length cap1)).heap.size = w1.heap.size := by simp [World.setCell]
  have hV := HV.out.keep ((((Stays.refl w1 W3.heap.size w1.heap.size).setCell (p := ⟨w.heap.size + 1 + 1, 1, none⟩) (.inl (by simp; omega)) (.slice a1 f.args.length cap1)).setCell (p := ⟨w.heap.size + 1, 0, none⟩) (.inl (by simp; omega)) (.string f.rel)).setCell (p := ⟨w.heap.size + 1, 1, none⟩) (.inl (by simp; omega)) (.slice a1 f.args.length cap1))
  clear e1 e2 e3 e4 g1 g2 g3 g4 HV HB HK HS
  generalize (((w1.setCell ⟨w.heap.size + 1 + 1, 1, none⟩ (.slice a1 f.args.length cap1)).setCell ⟨w.heap.size + 1, 0, none⟩ (.string f.rel)).setCell ⟨w.heap.size + 1, 1, none⟩ (.slice a1 f.args.length cap1)) = W4 at *
  have c0 := hK.cell0
  have c1 := hK.cell1
  refine bodyPost_ret (v := .agg #[.string f.rel, .slice a1 f.args.length cap1]) (by simp [results, Try.results57, go_sem, c0, c1]) rfl ?_
  exact ⟨_, rfl, ⟨_, rfl, hV.mono (by omega) (by omega)⟩, hB⟩
set_option maxHeartbeats 400000 in
theorem to_pat_any (v : Value) (f : FactV) (lo hi : Nat) (w : World) (hv : AG FactC w lo hi v f) (h1 : hi ≤ w.heap.size) (h2 : f.args.length ≤ 1048576) :
    Calls Try.prog 48 #[v] w fun e w' => ∃ v', e = .returned v' ∧ FO 9 w' w.heap.size w'.heap.size v' f ∧ Below w.heap.size w w' := by
  obtain ⟨_, rfl, av, rfl, ht⟩ := hv
  have HT := Lib.hid ht
  clear ht
  go_enter Try.func48, Try.ntmps48
  go_wp2_with fail
  have hb0 : Below w.heap.size w (((w.alloc (.cells #[.string f.rel, av] 24)).alloc (.cells #[.string ⟨#[]⟩, .slice none 0 0] 30)).alloc (.cells #[.string f.rel, .slice none 0 0] 30)) :=
    (((Below.refl _ _).alloc (Nat.le_refl _) _).alloc (by simp) _).alloc (by simp; omega) _
  have b1 : Blk (((w.alloc (.cells #[.string f.rel, av] 24)).alloc (.cells #[.string ⟨#[]⟩, .slice none 0 0] 30)).alloc (.cells #[.string f.rel, .slice none 0 0] 30)) (w.heap.size + 1) 30 #[.string ⟨#[]⟩, .slice none 0 0] := by
    have := (Blk.new (w.alloc (.cells #[.string f.rel, av] 24)) 30 #[.string ⟨#[]⟩, .slice none 0 0]).alloc (.cells #[.string f.rel, .slice none 0 0] 30)
    simpa using this
  have b2 : Blk (((w.alloc (.cells #[.string f.rel, av] 24)).alloc (.cells #[.string ⟨#[]⟩, .slice none 0 0] 30)).alloc (.cells #[.string f.rel, .slice none 0 0] 30)) (w.heap.size + 1 + 1) 30 #[.string f.rel, .slice none 0 0] := by
    have := Blk.new ((w.alloc (.cells #[.string f.rel, av] 24)).alloc (.cells #[.string ⟨#[]⟩, .slice none 0 0] 30)) 30 #[.string f.rel, .slice none 0 0]
    simpa using this
  have hsz : (((w.alloc (.cells #[.string f.rel, av] 24)).alloc (.cells #[.string ⟨#[]⟩, .slice none 0 0] 30)).alloc (.cells #[.string f.rel, .slice none 0 0] 30)).heap.size = w.heap.size + 3 := by simp
  generalize (((w.alloc (.cells #[.string f.rel, av] 24)).alloc (.cells #[.string ⟨#[]⟩, .slice none 0 0] 30)).alloc (.cells #[.string f.rel, .slice none 0 0] 30)) = W3 at *
  refine (toT_any av f.args lo hi _ (HT.out.below hb0 h1) h2 (by omega)).mono ?_
  rintro e w1 ⟨v1, rfl, hv1, hb1⟩
  obtain ⟨a1, cap1, rfl, -⟩ := hv1.tx
  have b1' := b1.below hb1 (by omega)
  have b2' := b2.below hb1 (by omega)
  have e1 := b1'.cell0
  have e2 := b1'.cell1
  have e3 := b2'.cell0
  have e4 := b2'.cell1
  have g1 := b1'.frozen 0
  have g2 := b1'.frozen 1
  have g3 := b2'.frozen 0
  have g4 := b2'.frozen 1
  have HV := Lib.hid hv1
  have HB := Lib.hid ((hb0.mono (Nat.le_refl _)).trans (hb1.mono (by omega)))
  have HS := Lib.hid hsz
  have HK := Lib.hid b1'
  clear hv1 hb1 hb0 b1 b2 b1' b2' hsz
  go_wp2
  have hs := HS.out
  have hB : Below w.heap.size w (((w1.setCell ⟨w.heap.size + 1 + 1, 1, none⟩ (.slice a1 f.args.length cap1)).setCell ⟨w.heap.size + 1, 0, none⟩ (.string f.rel)).setCell ⟨w.heap.size + 1, 1, none⟩ (.slice a1 f.args.length cap1)) :=
    ((HB.out.setCell (by simp; omega) _).setCell (by simp) _).setCell (by simp) _
  have hK : Blk (((w1.setCell ⟨w.heap.size + 1 + 1, 1, none⟩ (.slice a1 f.args.length cap1)).setCell ⟨w.heap.size + 1, 0, none⟩ (.string f.rel)).setCell ⟨w.heap.size + 1, 1, none⟩ (.slice a1 f.args.length cap1)) (w.heap.size + 1) 30 #[.string f.rel, .slice a1 f.args.length cap1] := by
    have := ((HK.out.far (p := ⟨w.heap.size + 1 + 1, 1, none⟩) (by simp) (.slice a1 f.args.length cap1)).set_ 0 (.string f.rel)).set_ 1 (.slice a1 f.args.length cap1)
    simpa using this
  have hz : (((w1.setCell ⟨w.heap.size + 1 + 1, 1, none⟩ (.slice a1 f.args.length cap1)).setCell ⟨w.heap.size + 1, 0, none⟩ (.string f.rel)).setCell ⟨w.heap.size + 1, 1, none⟩ (.slice a1 f.args.length cap1)).heap.size = w1.heap.size := by simp [World.setCell]
  have hV := HV.out.keep ((((Stays.refl w1 W3.heap.size w1.heap.size).setCell (p := ⟨w.heap.size + 1 + 1, 1, none⟩) (.inl (by simp; omega)) (.slice a1 f.args.length cap1)).setCell (p := ⟨w.heap.size + 1, 0, none⟩) (.inl (by simp; omega)) (.string f.rel)).setCell (p := ⟨w.heap.size + 1, 1, none⟩) (.inl (by simp; omega)) (.slice a1 f.args.length cap1))
  clear e1 e2 e3 e4 g1 g2 g3 g4 HV HB HK HS
  generalize (((w1.setCell ⟨w.heap.size + 1 + 1, 1, none⟩ (.slice a1 f.args.length cap1)).setCell ⟨w.heap.size + 1, 0, none⟩ (.string f.rel)).setCell ⟨w.heap.size + 1, 1, none⟩ (.slice a1 f.args.length cap1)) = W4 at *
  have c0 := hK.cell0
  have c1 := hK.cell1
  refine bodyPost_ret (v := .agg #[.string f.rel, .slice a1 f.args.length cap1]) (by simp [results, Try.results48, go_sem, c0, c1]) rfl ?_
  exact ⟨_, rfl, ⟨_, rfl, hV.mono (by omega) (by omega)⟩, hB⟩
set_option maxHeartbeats 400000 in
theorem eq_fact_any (v v' : Value) (f : FactV) (lo hi lo' hi' : Nat) (w : World) (hv : AG FactC w lo hi v f) (hv' : AG FactC w lo' hi' v' f) (h1 : hi ≤ w.heap.size) (h2 : hi' ≤ w.heap.size) :
    Calls Try.prog 50 #[v, v'] w fun e w' => e = .returned (.bool true) ∧ Below w.heap.size w w' := by
  obtain ⟨_, rfl, av, rfl, ht⟩ := hv
  obtain ⟨_, rfl, av', rfl, ht'⟩ := hv'
  have HT := Lib.hid ht
  have HT' := Lib.hid ht'
  clear ht ht'
  have HB : Hid (Below w.heap.size w ((w.alloc (.cells #[.string f.rel, av] 79)).alloc (.cells #[.string f.rel, av'] 79))) :=
    ((Below.refl _ _).alloc (Nat.le_refl _) _).alloc (by simp) _
  have HZ : Hid (((w.alloc (.cells #[.string f.rel, av] 79)).alloc (.cells #[.string f.rel, av'] 79)).heap.size = w.heap.size + 2) := by simp [Hid]
  go_enter Try.func50, Try.ntmps50
  go_wp2_with fail
  refine (eqT_any av av' f.args lo hi lo' hi' _ (HT.out.below HB.out h1) (HT'.out.below HB.out h2) (by rw [HZ.out]; omega) (by rw [HZ.out]; omega)).mono ?_
  rintro e w1 ⟨rfl, hb1⟩
  have hB := HB.out.trans (hb1.mono (by rw [HZ.out]; omega))
  clear hb1
  go_wp2
  go_ret
  exact ⟨rfl, hB⟩
set_option maxHeartbeats 400000 in
theorem eq_pat_any (v v' : Value) (f : FactV) (lo hi lo' hi' : Nat) (w : World) (hv : AG FactC w lo hi v f) (hv' : AG FactC w lo' hi' v' f) (h1 : hi ≤ w.heap.size) (h2 : hi' ≤ w.heap.size) :
    Calls Try.prog 51 #[v, v'] w fun e w' => e = .returned (.bool true) ∧ Below w.heap.size w w' := by
  obtain ⟨_, rfl, av, rfl, ht⟩ := hv
  obtain ⟨_, rfl, av', rfl, ht'⟩ := hv'
  have HT := Lib.hid ht
  have HT' := Lib.hid ht'
  clear ht ht'
  have HB : Hid (Below w.heap.size w ((w.alloc (.cells #[.string f.rel, av] 30)).alloc (.cells #[.string f.rel, av'] 30))) :=
    ((Below.refl _ _).alloc (Nat.le_refl _) _).alloc (by simp) _
  have HZ : Hid (((w.alloc (.cells #[.string f.rel, av] 30)).alloc (.cells #[.string f.rel, av'] 30)).heap.size = w.heap.size + 2) := by simp [Hid]
  go_enter Try.func51, Try.ntmps51
  go_wp2_with fail
  refine (eqT_any av av' f.args lo hi lo' hi' _ (HT.out.below HB.out h1) (HT'.out.below HB.out h2) (by rw [HZ.out]; omega) (by rw [HZ.out]; omega)).mono ?_
  rintro e w1 ⟨rfl, hb1⟩
  have hB := HB.out.trans (hb1.mono (by rw [HZ.out]; omega))
  clear hb1
  go_wp2
  go_ret
  exact ⟨rfl, hB⟩
end Go.Proofs.Ytojgkodffmdnpaa
