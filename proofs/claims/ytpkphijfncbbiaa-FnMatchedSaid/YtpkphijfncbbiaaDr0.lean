/- Bytes that came in, and a cursor over them: a block of the call's own; what is drawn by it changes that block alone; no condition: nothing of the program is named here. -/
import Derived.Test.YtpkphijfncbbiaaOb
namespace Go.Proofs.Ytpkphijfncbbiaa
open Go.RowKit Go.ChangeShapes Go.WideShapes Go.Deep Go.OpenShut
set_option linter.unusedVariables false
/- bytes -/
def ByteC (_ : World) (_ _ : Nat) (cs : List Value) (n : Int) : Prop := cs = [.int .u8 n]
abbrev BX : World → Nat → Nat → Value → List Int → Prop := SL ByteC 1
instance : Kp BX := ⟨fun h hk => h.keep hk fun _ _ _ h => h⟩
def okB (n : Int) : Prop := 0 ≤ n ∧ n ≤ 255
section
variable {H : Type} {enc : TypeId × Value → H} {P : Program} {w : World} {spare : Nat → Bool} {held : Bool}
theorem rd_byte {t : TypeId} {n : Nat} {cs : List Value} {x : DataW H × List MemPlace} (ht : P.underlying t = some (.int .u8)) (h : DataW.trod enc P w 0 spare held n t cs = some x) : ∃ z, ByteC w 0 w.heap.size cs z ∧ okB z := by
  obtain ⟨z, rfl, -, hs⟩ := DataW.trod_int ht h
  exact ⟨z, rfl, bounds_u8 hs⟩
variable {t : TypeId} {v : Value} {d : DataW H} {p : List MemPlace} {r : Reach} {b0 : Nat}
theorem op_bytes {e : TypeId} (ht : P.underlying t = some (.slice e)) (he : P.underlying e = some (.int .u8)) (hsz : P.cellsOf e = 1) (hv : Value.okWide P w r b0 t v) (h : DataW.Trod enc P w 0 spare held t v d p) :
    ∃ L, BX w 0 w.heap.size v L ∧ ∀ n ∈ L, okB n :=
  op_sl ht hv h fun _ _ _ hx => rd_SL (R := ByteC) (ok := okB) ht hsz (by omega) (fun _ _ _ hx => rd_byte he hx) hx
end
theorem BX.at {w : World} {lo hi n cap k : Nat} {a : Option Addr} {L : List Int} (h : BX w lo hi (.slice a n cap) L) (hk : k < L.length) :
    ∃ b off, a = some ⟨b, off, none⟩ ∧ lo ≤ b ∧ b < hi ∧ w.cell? ⟨b, off + k, none⟩ = some (.int .u8 L[k]) := by
  obtain ⟨b, off, cs, rfl, h1, h2, -, h4, rfl⟩ := SL.at h hk
  have := h4 0 (by omega)
  exact ⟨b, off, rfl, h1, h2, by simpa using this⟩
/- masks -/
theorem mask_nn (x y : Int) (m : Nat) (hm : y = (m : Int)) (hb : m < 2 ^ 62) : 0 ≤ bits .and .i64 x y ∧ bits .and .i64 x y ≤ y := by
  subst hm
  have e : ((BitVec.ofInt 64 x) &&& (BitVec.ofInt 64 (m : Int))).toNat ≤ m := by
    rw [BitVec.toNat_and]
    refine Nat.le_trans Nat.and_le_right ?_
    rw [BitVec.ofInt_natCast, BitVec.toNat_ofNat]
    exact Nat.mod_le _ _
  have hw : bits .and .i64 x m = IntKind.i64.wrap (((BitVec.ofInt 64 x) &&& (BitVec.ofInt 64 (m : Int))).toNat : Int) := rfl
  rw [hw, IntKind.wrap_i64]
  omega
theorem mask_255 (x : Int) : ∃ n : Nat, bits .and .i64 x 255 = (n : Int) ∧ n ≤ 255 := by
  have h := mask_nn x 255 255 rfl (by decide)
  exact ⟨(bits .and .i64 x 255).toNat, by omega, by omega⟩
theorem mask_30 (x : Int) : ∃ n : Nat, bits .and .i64 x 1073741823 = (n : Int) ∧ n ≤ 1073741823 := by
  have h := mask_nn x 1073741823 1073741823 rfl (by decide)
  exact ⟨(bits .and .i64 x 1073741823).toNat, by omega, by omega⟩
/- the cursor -/
def Cur (T : TypeId) (w : World) (g : Nat) : Prop :=
  ∃ (bv : Value) (L : List Int) (lo hi i : Nat) (h : Int), Blk w g T #[bv, .int .i64 i, .int .i64 h] ∧ Ob BX w lo hi bv L ∧ (∀ n ∈ L, okB n) ∧ hi ≤ g ∧ i ≤ L.length ∧ L.length ≤ 4096
abbrev Dr (T : TypeId) (g : Nat) (w w' : World) : Prop := Cur T w' g ∧ Chg g (g + 1) w w'
section
variable {T : TypeId} {w w' w'' a : World} {g lo hi : Nat}
theorem Cur.lt (h : Cur T w g) : g < w.heap.size := by obtain ⟨bv, L, lo, hi, i, h, hb, -⟩ := h; exact hb.lt
theorem Cur.up (h : Cur T w g) (hb : Up w w') : Cur T w' g := by
  obtain ⟨bv, L, lo, hi, i, x, h1, h2, h3⟩ := h
  exact ⟨bv, L, lo, hi, i, x, h1.up hb, h2.up hb, h3⟩
theorem Cur.chg {lo' hi' : Nat} (h : Cur T w g) (hc : Chg lo' hi' w w') (ho : g < lo') : Cur T w' g := by
  obtain ⟨bv, L, lo, hi, i, x, h1, h2, h3, h4, h5⟩ := h
  exact ⟨bv, L, lo, hi, i, x, h1.chg hc (.inl ho), h2.chg hc (.inl (by omega)), h3, h4, h5⟩
theorem Cur.grown {row : Option Nat} (h : Cur T w g) (hg : w.grownBy w' row) (hr : ∀ b, row = some b → g < b ∧ b < w.heap.size) : Cur T w' g :=
  h.chg (Chg.grown (lo := g + 1) (hi := w.heap.size) hg fun b hb => by have := hr b hb; omega) (by omega)
theorem Chg.rf (w : World) (lo hi : Nat) : Chg lo hi w w := (Up.rf w).chg _ _
theorem Dr.tr (h : Dr T g w w') (k : Dr T g w' w'') : Dr T g w w'' := ⟨k.1, h.2.tr k.2⟩
theorem Dr.up (h : Dr T g w w') (k : Up w' w'') : Dr T g w w'' := ⟨h.1.up k, h.2.up k⟩
theorem Dr.pre (h : Up w w') (k : Dr T g w' w'') : Dr T g w w'' := ⟨k.1, (h.chg _ _).tr k.2⟩
theorem Dr.of (h : Cur T w g) (k : Up w w') : Dr T g w w' := ⟨h.up k, k.chg _ _⟩
/-- what lies not at the cursor stays -/
theorem Ob.dr_ {α : Type} {R : World → Nat → Nat → Value → α → Prop} [Kp R] {v : Value} {x : α} (h : Ob R w lo hi v x) (hd : Dr T g w w') (ho : hi ≤ g ∨ g < lo) : Ob R w' lo hi v x := h.chg hd.2 (by omega)
theorem Blk.dr_ {b : Nat} {t : TypeId} {cs : Array Value} (h : Blk w b t cs) (hd : Dr T g w w') (ho : b ≠ g) : Blk w' b t cs := h.chg hd.2 (by omega)
/-- a cursor of the call's own: what was there before the call stays -/
theorem Dr.below (h : Dr T g w w') (hb : Up a w) (hg : a.heap.size ≤ g) : Up a w' := Chg.below (show Below a.heap.size a w from hb) h.2 hg hb.size
end
/- lists that the call itself wrote out -/
theorem TX.row_ (E : TypeId) (w : World) (L : List ByteArray) (hl : L.length ≤ 4194305) : Ob TX (w.alloc (.cells (L.map Value.string).toArray E)) w.heap.size (w.alloc (.cells (L.map Value.string).toArray E)).heap.size (.slice (some ⟨w.heap.size, 0, none⟩) L.length L.length) L := by
  refine ⟨⟨_, L.length, rfl, Nat.le_refl _, by unfold maxLen; omega, fun _ => ⟨w.heap.size, 0, rfl, Nat.le_refl _, by simp, fun i hi => ?_⟩⟩, Nat.le_refl _⟩
  rw [Nat.zero_add, (Blk.new w E (L.map Value.string).toArray).cell i]
  simp [hi]
def IntC (_ : World) (_ _ : Nat) (cs : List Value) (n : Int) : Prop := cs = [.int .i64 n]
abbrev IX : World → Nat → Nat → Value → List Int → Prop := SL IntC 1
instance : Kp IX := ⟨fun h hk => h.keep hk fun _ _ _ h => h⟩
theorem IX.at {w : World} {lo hi n cap k : Nat} {a : Option Addr} {L : List Int} (h : IX w lo hi (.slice a n cap) L) (hk : k < L.length) :
    ∃ b off, a = some ⟨b, off, none⟩ ∧ lo ≤ b ∧ b < hi ∧ w.cell? ⟨b, off + k, none⟩ = some (.int .i64 L[k]) := by
  obtain ⟨b, off, cs, rfl, h1, h2, -, h4, rfl⟩ := SL.at h hk
  have := h4 0 (by omega)
  exact ⟨b, off, rfl, h1, h2, by simpa using this⟩
theorem IX.row_ (E : TypeId) (w : World) (L : List Int) (hl : L.length ≤ 4194305) : Ob IX (w.alloc (.cells (L.map (Value.int .i64)).toArray E)) w.heap.size (w.alloc (.cells (L.map (Value.int .i64)).toArray E)).heap.size (.slice (some ⟨w.heap.size, 0, none⟩) L.length L.length) L := by
  refine ⟨⟨_, L.length, rfl, Nat.le_refl _, by unfold maxLen; omega, fun _ => ⟨w.heap.size, 0, rfl, Nat.le_refl _, by simp, fun i hi => ⟨_, rfl, fun j hj => ?_, rfl⟩⟩⟩, Nat.le_refl _⟩
  obtain rfl : j = 0 := by omega
  rw [Nat.zero_add, Nat.mul_one, Nat.add_zero, (Blk.new w E (L.map (Value.int .i64)).toArray).cell i]
  simp [hi]
end Go.Proofs.Ytpkphijfncbbiaa
