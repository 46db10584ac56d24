/- The contracts of the laws' own functions on facts and patterns (size, copy, equality) and of the functions that tell whether two facts or patterns are equal; wherever the lengths can be counted. -/
import Derived.Test.YtgpgeegpaaoakaaDoorSame
import Derived.Test.YtgpgeegpaaoakaaDoorOb
namespace Go.Proofs.YtgpgeegpaaoakaaDoor
open Go.RowKit
attribute [local go_sem ↓] Go.wp_at_zero Go.wp_at_succ
def fsz (f : FactV) : Nat := f.rel.size + tsz f.args
theorem szv_neg {left : Int} {n : Nat} (h : left < n) : szv left n = -1 := by unfold szv; rw [if_neg (by omega)]
theorem szv_pos {left : Int} {n : Nat} (h : (n : Int) ≤ left) : szv left n = left - n := by unfold szv; rw [if_pos h]
def sameFB (f g : FactV) : Bool := decide (f.rel = g.rel) && sameTB f.args g.args
theorem sameFB_t {f g : FactV} (h : (f.rel.toList == g.rel.toList) = true) : sameFB f g = sameTB f.args g.args := by
  unfold sameFB; rw [str_eq_t h]; simp
theorem sameFB_f {f g : FactV} (h : (f.rel.toList == g.rel.toList) = false) : sameFB f g = false := by
  have := str_eq_f h; unfold sameFB; simp [this]
theorem sameFB_iff {f g : FactV} : sameFB f g = true ↔ f = g := by
  unfold sameFB sameTB; cases f; cases g; simp
set_option maxHeartbeats 400000 in
theorem sameFS_any (v v' : Value) (f g : FactV) (lo hi lo' hi' : Nat) (w : World) (hv : AG FactC w lo hi v f) (hv' : AG FactC w lo' hi' v' g) (h1 : hi ≤ w.heap.size) (h2 : hi' ≤ w.heap.size) :
    Calls Tryd.prog 15 #[v, v'] w fun e w' => e = .returned (.bool (sameFB f g)) ∧ Below w.heap.size w w' := by
  obtain ⟨_, rfl, av, rfl, ht⟩ := hv
  obtain ⟨_, rfl, av', rfl, ht'⟩ := hv'
  have HT := Lib.hid ht
  have HT' := Lib.hid ht'
  clear ht ht'
  have HB : Hid (Below w.heap.size w ((w.alloc (.cells #[.string f.rel, av] 26)).alloc (.cells #[.string g.rel, av'] 26))) :=
    ((Below.refl _ _).alloc (Nat.le_refl _) _).alloc (by simp) _
  have HZ : Hid (((w.alloc (.cells #[.string f.rel, av] 26)).alloc (.cells #[.string g.rel, av'] 26)).heap.size = w.heap.size + 2) := by simp [Hid]
  go_enter Tryd.func15, Tryd.ntmps15
  cases hq : (f.rel.toList == g.rel.toList)
  · have HF := Lib.hid (sameFB_f hq)
    go_wp2_with fail
    go_ret
    exact ⟨ret_bool HF.out.symm, HB.out⟩
  · have HF := Lib.hid (sameFB_t hq)
    go_wp2_with fail
    refine (sameTS_any av av' f.args g.args lo hi lo' hi' _ (HT.out.below HB.out h1) (HT'.out.below HB.out h2) (by rw [HZ.out]; omega) (by rw [HZ.out]; omega)).mono ?_
    rintro e w1 ⟨rfl, hb1⟩
    have hB := HB.out.trans (hb1.mono (by rw [HZ.out]; omega))
    clear hb1
    go_wp2
    go_ret
    exact ⟨ret_bool HF.out.symm, hB⟩
end Go.Proofs.YtgpgeegpaaoakaaDoor
