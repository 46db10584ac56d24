/- Split, the program's and the reference's: a text divided at each instance of another one; wherever the lengths can be counted. -/
import Derived.Shelf.Vars
import Derived.Deep.AppendLies
import Derived.Test.YtjaifoeagocapaaDoorShelf
import Derived.Test.YtjaifoeagocapaaDoorApp
import Derived.Test.YtjaifoeagocapaaDoorPl1
namespace Go.Proofs.YtjaifoeagocapaaDoor
open Go.RowKit
attribute [local go_sem ↓] Go.wp_at_zero Go.wp_at_succ
set_option linter.unusedVariables false
/-- the library's limit holds some number -/
def MxL (w : World) : Prop := ∃ m, w.cell? ⟨1, 0, none⟩ = some (.int .i64 m)
theorem MxL.up {w w' : World} (h : MxL w) (hb : Up w w') : MxL w' := by obtain ⟨m, hm⟩ := h; exact ⟨m, keepCell hb hm⟩
theorem mxl_of {W : World} (h : W.ShapedOpen Tryd.prog) : MxL W :=
  cell_of_shapedOpen_int (t := 3) (zero := #[.int .i64 0]) h (of_decide_eq_true (by kernel_rfl)) (by kernel_rfl) rfl (by kernel_rfl) (by kernel_rfl) Tryd.underlying3
theorem TO.row_ (E : TypeId) (w : World) (L : List ByteArray) (hl : L.length ≤ 4194305) : TO E (w.alloc (.cells (L.map Value.string).toArray E)) w.heap.size (w.alloc (.cells (L.map Value.string).toArray E)).heap.size (.slice (some ⟨w.heap.size, 0, none⟩) L.length L.length) L := by
  have h := World.ownsRow_lit (e := E) (size := 1) w (L.map Value.string).toArray L.length (Nat.le_refl _) (by unfold maxLen; omega) (by simp)
  exact ⟨by simpa using h, fun g hg => (h.lt g hg).2⟩
theorem sep_f {sep : ByteArray} (h : sep.size ≠ 0) : (sep.toList == ([] : List UInt8)) = false := by
  rw [ByteArray.toList_eq]
  cases hq : sep.data.toList with
  | nil => exact absurd (by rw [Lib.size_eq, hq]; rfl) h
  | cons a r => rfl
theorem sep_t {sep : ByteArray} (h : sep.size = 0) : sep = ⟨#[]⟩ := data_inj (by rw [Lib.size_eq] at h; exact List.eq_nil_of_length_eq_zero h)
end Go.Proofs.YtjaifoeagocapaaDoor
