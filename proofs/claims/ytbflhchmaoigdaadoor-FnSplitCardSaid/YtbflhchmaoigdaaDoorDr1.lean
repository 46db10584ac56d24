/- What is drawn, one level up from the cursor: a byte, a number below a bound, one of a list, an atom, a word; of what is drawn it is said only that it is one of those. -/
import Derived.BigQuiet
import Derived.Test.YtbflhchmaoigdaaDoorDr0
import Derived.Test.YtbflhchmaoigdaaDoorApp
import Derived.Test.YtbflhchmaoigdaaDoorProg
namespace Go.Proofs.YtbflhchmaoigdaaDoor
open Go.RowKit
attribute [local go_sem ↓] Go.wp_at_zero Go.wp_at_succ
set_option linter.unusedVariables false
set_option maxHeartbeats 1000000 in
theorem cNew {v : Value} {L : List Int} {lo hi : Nat} {w : World} (h : Ob BX w lo hi v L) (hok : ∀ n ∈ L, okB n) (hl : L.length ≤ 4096) :
    Calls Tryd.prog 81 #[v] w fun e w' => ∃ g, e = .returned (.pointer (some ⟨g, 0, none⟩)) ∧ w.heap.size ≤ g ∧ Cur 110 w' g ∧ Up w w' := by
  obtain ⟨a, cap, rfl⟩ := h.1.form
  have HV := Lib.hid h
  have HK := Lib.hid hok
  clear h hok
  have fin : ∀ x : Int, Hid (∃ g, (Ending.returned (.pointer (some ⟨w.heap.size, 0, none⟩))) = .returned (.pointer (some ⟨g, 0, none⟩)) ∧ w.heap.size ≤ g ∧ Cur 110 (w.alloc (.cells #[.slice a L.length cap, .int .i64 0, .int .i64 x] 110)) g ∧ Up w (w.alloc (.cells #[.slice a L.length cap, .int .i64 0, .int .i64 x] 110))) := fun x =>
    ⟨_, rfl, Nat.le_refl _, ⟨_, L, lo, hi, 0, x, Blk.new _ _ _, HV.out.up (Up.al1 _ _), HK.out, HV.out.2, Nat.zero_le _, hl⟩, Up.al1 _ _⟩
  go_enter Tryd.func81, Tryd.ntmps81
  go_wp2_with fail
  go_loop [3, 4] (fun hh i => ∃ (k : Nat) (x : Int), k ≤ L.length ∧ i = .int .i64 k ∧ hh = .int .i64 x ∧ 0 ≤ x ∧ x ≤ 1073741823) (fun _ i => L.length - (intOf i).toNat)
  case atStart => exact ⟨0, _, Nat.zero_le _, rfl, rfl, by omega, by omega⟩
  case round =>
    obtain ⟨k, x, hk, rfl, rfl, hx0, hx1⟩ := hrel
    have i1 : (0 : Int) ≤ (k : Int) := by omega
    by_cases hlt : k < L.length
    · have i2 : (k : Int) < (L.length : Int) := by omega
      have d2 : decide ((k : Int) < (L.length : Int)) = true := decide_eq_true i2
      by_cases h4 : (k : Int) < 4000
      · obtain ⟨b, off, rfl, -, -, c0⟩ := BX.at HV.out.1 hlt
        have hkb := HK.out _ (List.getElem_mem hlt)
        obtain ⟨n0, n1⟩ := hkb
        have d4 : decide ((k : Int) < 4000) = true := decide_eq_true h4
        have hm := mask_30 (x * 167 + L[k] + 29)
        go_wp2
        obtain ⟨m, hm, hm1⟩ := hm
        exact ⟨⟨k+1, _, by omega, by go_num, rfl, by omega, by omega⟩, by simp [intOf]; omega⟩
      · have d4 : decide ((k : Int) < 4000) = false := decide_eq_false h4
        go_wp2
        go_ret
        exact (fin x).out
    · have d2 : decide ((k : Int) < (L.length : Int)) = false := decide_eq_false (by omega)
      go_wp2
      go_ret
      exact (fin x).out
theorem Cur.open_ {T : TypeId} {w : World} {g : Nat} (h : Cur T w g) : ∃ (a : Option Addr) (cap : Nat) (L : List Int) (lo hi i : Nat) (x : Int), Blk w g T #[.slice a L.length cap, .int .i64 i, .int .i64 x] ∧ Ob BX w lo hi (.slice a L.length cap) L ∧ (∀ n ∈ L, okB n) ∧ hi ≤ g ∧ i ≤ L.length ∧ L.length ≤ 4096 := by
  obtain ⟨bv, L, lo, hi, i, x, h1, h2, h3⟩ := h
  obtain ⟨a, cap, rfl⟩ := h2.1.form
  exact ⟨a, cap, L, lo, hi, i, x, h1, h2, h3⟩
theorem Chg.set1 (w : World) (g j : Nat) (v : Value) : Chg g (g + 1) w (w.setCell ⟨g, j, none⟩ v) :=
  ⟨rfl, rfl, rfl, by simp [World.setCell], fun k _ ho => Below.heap_setCell w _ v k (by show k ≠ g; omega)⟩
theorem Cur.next {T : TypeId} {w W2 : World} {g : Nat} {v : Value} {L : List Int} {lo hi i : Nat} {X : Int} (HB : Blk W2 g T #[v, .int .i64 i, .int .i64 X]) (HL : Ob BX W2 lo hi v L) (HK : ∀ n ∈ L, okB n) (hd : hi ≤ g) (hi' : i < L.length) (hlen : L.length ≤ 4096) (HC : Chg g (g + 1) w W2) (k : Nat) :
    Dr T g w ((W2.drewN k).setCell ⟨g, 1, none⟩ (.int .i64 ((i : Int) + 1))) := by
  have hu : Up W2 (W2.drewN k) := below_drewN (Up.rf W2) k
  have hb : Blk ((W2.drewN k).setCell ⟨g, 1, none⟩ (.int .i64 ((i : Int) + 1))) g T #[v, .int .i64 ((i + 1 : Nat) : Int), .int .i64 X] := by have := (HB.up hu).set_ 1 (.int .i64 ((i : Int) + 1)); simpa using this
  exact ⟨⟨v, L, lo, hi, i + 1, X, hb, (HL.up hu).chg (Chg.set1 _ g 1 _) (by omega), HK, hd, by omega, hlen⟩, (HC.up hu).tr (Chg.set1 _ g 1 _)⟩
theorem Cur.stay {T : TypeId} {w W2 : World} {g : Nat} {v : Value} {L : List Int} {lo hi i : Nat} {X : Int} (HB : Blk W2 g T #[v, .int .i64 i, .int .i64 X]) (HL : Ob BX W2 lo hi v L) (HK : ∀ n ∈ L, okB n) (hd : hi ≤ g) (hi' : i ≤ L.length) (hlen : L.length ≤ 4096) (HC : Chg g (g + 1) w W2) (k : Nat) :
    Dr T g w (W2.drewN k) := by
  have hu : Up W2 (W2.drewN k) := below_drewN (Up.rf W2) k
  exact ⟨⟨v, L, lo, hi, i, X, HB.up hu, HL.up hu, HK, hd, hi', hlen⟩, HC.up hu⟩
set_option maxHeartbeats 1000000 in
theorem cByte {g : Nat} {w : World} (hc : Cur 110 w g) :
    Calls Tryd.prog 122 #[.pointer (some ⟨g, 0, none⟩)] w fun e w' => ∃ n : Nat, e = .returned (.int .i64 n) ∧ n ≤ 255 ∧ Dr 110 g w w' := by
  obtain ⟨a, cap, L, lo, hi, i, x, hB, hL, hok, hd, hi', hlen⟩ := hc.open_
  clear hc
  have HL := Lib.hid hL
  have HK := Lib.hid hok
  have HB := Lib.hid hB
  clear hL hok
  have c0 : w.cell? ⟨g, 0, none⟩ = some (.slice a L.length cap) := hB.cell 0
  have c1 : w.cell? ⟨g, 1, none⟩ = some (.int .i64 i) := hB.cell 1
  have c2 : w.cell? ⟨g, 2, none⟩ = some (.int .i64 x) := hB.cell 2
  have f2 := hB.frozen 2
  clear hB
  go_enter Tryd.func122, Tryd.ntmps122
  go_wp2
  generalize wrap64 (wrap64 (x * 6364136223846793005) + 1442695040888963407) = X at *
  have hB1 : Blk (w.setCell ⟨g, 2, none⟩ (.int .i64 X)) g 110 #[.slice a L.length cap, .int .i64 i, .int .i64 X] := by have := HB.out.set_ 2 (.int .i64 X); simpa using this
  have hC1 : Chg g (g + 1) w (w.setCell ⟨g, 2, none⟩ (.int .i64 X)) := Chg.set1 w g 2 _
  have hL1 := HL.out.chg hC1 (by omega)
  generalize w.setCell ⟨g, 2, none⟩ (.int .i64 X) = W1 at *
  clear c0 c1 c2 f2
  have c0 : W1.cell? ⟨g, 0, none⟩ = some (.slice a L.length cap) := hB1.cell 0
  have c1 : W1.cell? ⟨g, 1, none⟩ = some (.int .i64 i) := hB1.cell 1
  have c2 : W1.cell? ⟨g, 2, none⟩ = some (.int .i64 X) := hB1.cell 2
  have f1 := hB1.frozen 1
  have HB1 := Lib.hid hB1
  have HC1 := Lib.hid hC1
  have HL1 := Lib.hid hL1
  clear hB1 hC1 hL1 HB HL
  go_quiet (fail)
  generalize hz : bits .and .i64 _ 255 = z at *
  obtain ⟨m, hm, hm1⟩ : ∃ m : Nat, z = (m : Int) ∧ m ≤ 255 := by rw [← hz]; exact mask_255 _
  subst hm
  clear hz
  have hU2 : Up W1 (W1.drewN nq) := below_drewN (Up.rf W1) _
  generalize W1.drewN nq = W2 at *
  replace HB1 := Lib.hid (HB1.out.up hU2)
  replace HL1 := Lib.hid (HL1.out.up hU2)
  replace HC1 := Lib.hid (HC1.out.up hU2)
  clear c0 c1 c2 f1 hU2
  have c0 : W2.cell? ⟨g, 0, none⟩ = some (.slice a L.length cap) := HB1.out.cell 0
  have c1 : W2.cell? ⟨g, 1, none⟩ = some (.int .i64 i) := HB1.out.cell 1
  have f1 := HB1.out.frozen 1
  have i1 : (0 : Int) ≤ (i : Int) := by omega
  by_cases hlt : i < L.length
  · obtain ⟨b, off, rfl, -, -, e0⟩ := BX.at HL1.out.1 hlt
    have i2 : (i : Int) < (L.length : Int) := by omega
    have hkb := HK.out _ (List.getElem_mem hlt)
    obtain ⟨n0, n1⟩ := hkb
    generalize hy : L[i] = y at *
    go_wp2_with fail
    go_quiet (fail)
    go_wp2_with fail
    go_quiet (fail)
    generalize hz : bits .and .i64 _ 255 = z at *
    obtain ⟨m', hm, hm2⟩ : ∃ m' : Nat, z = (m' : Int) ∧ m' ≤ 255 := by rw [← hz]; exact mask_255 _
    subst hm
    clear hz
    go_wp2
    go_ret
    exact ⟨m', rfl, hm2, Cur.next HB1.out HL1.out HK.out hd hlt hlen HC1.out _⟩
  · have i2 : (L.length : Int) ≤ (i : Int) := by omega
    have i3 : ¬ (i : Int) < (L.length : Int) := by omega
    go_wp2_with fail
    go_quiet (fail)
    go_wp2
    go_ret
    exact ⟨m, rfl, hm1, Cur.stay HB1.out HL1.out HK.out hd hi' hlen HC1.out _⟩
set_option maxHeartbeats 1000000 in
theorem cBelow {g n : Nat} {w : World} (hc : Cur 110 w g) (h0 : 0 < n) (h1 : n ≤ 1000000) :
    Calls Tryd.prog 94 #[.pointer (some ⟨g, 0, none⟩), .int .i64 n] w fun e w' => ∃ k : Nat, e = .returned (.int .i64 k) ∧ k < n ∧ Dr 110 g w w' := by
  have HC := Lib.hid hc
  clear hc
  have i0 : (0 : Int) < (n : Int) := by omega
  have i1 : ¬ (n : Int) ≤ 0 := by omega
  by_cases h : (n : Int) ≤ 256
  · go_enter Tryd.func94, Tryd.ntmps94
    go_wp2_with fail
    refine (cByte HC.out).mono ?_
    rintro e w1 ⟨m, rfl, hm, hd⟩
    have HD := Lib.hid hd
    clear hd
    have j0 : (0 : Int) ≤ (m : Int) := by omega
    go_wp2
    go_ret
    exact ⟨m % n, rfl, Nat.mod_lt _ h0, HD.out⟩
  · go_enter Tryd.func94, Tryd.ntmps94
    go_wp2_with fail
    refine (cByte HC.out).mono ?_
    rintro e w1 ⟨m1, rfl, hm1, hd1⟩
    have HD1 := Lib.hid hd1
    clear hd1
    go_wp2_with fail
    refine (cByte HD1.out.1).mono ?_
    rintro e w2 ⟨m2, rfl, hm2, hd2⟩
    have HD2 := Lib.hid (HD1.out.tr hd2)
    clear hd2 HD1
    go_wp2_with fail
    refine (cByte HD2.out.1).mono ?_
    rintro e w3 ⟨m3, rfl, hm3, hd3⟩
    have HD3 := Lib.hid (HD2.out.tr hd3)
    clear hd3 HD2
    have j1 : (0 : Int) ≤ (m1 : Int) := by omega
    have j2 : (0 : Int) ≤ (m2 : Int) := by omega
    have j3 : (0 : Int) ≤ (m3 : Int) := by omega
    have j4 : (m1 : Int) ≤ 255 := by omega
    have j5 : (m2 : Int) ≤ 255 := by omega
    have j6 : (m3 : Int) ≤ 255 := by omega
    go_wp2
    go_ret
    exact ⟨(m1 * 65536 + m2 * 256 + m3) % n, rfl, Nat.mod_lt _ h0, HD3.out⟩
theorem cOnce {g n : Nat} {w : World} (hc : Cur 110 w g) (h0 : 0 < n) (h1 : n ≤ 1000000) :
    Calls Tryd.prog 92 #[.pointer (some ⟨g, 0, none⟩), .int .i64 n] w fun e w' => ∃ b : Bool, e = .returned (.bool b) ∧ Dr 110 g w w' := by
  have HC := Lib.hid hc
  clear hc
  go_enter Tryd.func92, Tryd.ntmps92
  go_wp2_with fail
  refine (cBelow HC.out h0 h1).mono ?_
  rintro e w1 ⟨k, rfl, hk, hd⟩
  have HD := Lib.hid hd
  clear hd
  go_wp2
  go_ret
  exact ⟨_, rfl, HD.out⟩
theorem cStr {g : Nat} {v : Value} {L : List ByteArray} {lo hi : Nat} {w : World} (hc : Cur 110 w g) (h : Ob TX w lo hi v L) (ho : hi ≤ g ∨ g < lo) (h0 : 0 < L.length) (h1 : L.length ≤ 1000000) :
    Calls Tryd.prog 105 #[.pointer (some ⟨g, 0, none⟩), v] w fun e w' => ∃ s, e = .returned (.string s) ∧ s ∈ L ∧ Dr 110 g w w' := by
  obtain ⟨a, cap, rfl⟩ := h.1.form
  have HC := Lib.hid hc
  have HV := Lib.hid h
  clear hc h
  go_enter Tryd.func105, Tryd.ntmps105
  go_wp2_with fail
  refine (cBelow HC.out h0 h1).mono ?_
  rintro e w1 ⟨k, rfl, hk, hd⟩
  obtain ⟨b, off, rfl, -, -, c0⟩ := (HV.out.dr_ hd ho).1.at hk
  have HD := Lib.hid hd
  clear hd
  have i1 : (0 : Int) ≤ (k : Int) := by omega
  have i2 : (k : Int) < (L.length : Int) := by omega
  go_wp2
  go_ret
  exact ⟨L[k], rfl, List.getElem_mem hk, HD.out⟩
theorem cInt {g : Nat} {v : Value} {L : List Int} {lo hi : Nat} {w : World} (hc : Cur 110 w g) (h : Ob IX w lo hi v L) (ho : hi ≤ g ∨ g < lo) (h0 : 0 < L.length) (h1 : L.length ≤ 1000000) :
    Calls Tryd.prog 119 #[.pointer (some ⟨g, 0, none⟩), v] w fun e w' => ∃ n, e = .returned (.int .i64 n) ∧ n ∈ L ∧ Dr 110 g w w' := by
  obtain ⟨a, cap, rfl⟩ := h.1.form
  have HC := Lib.hid hc
  have HV := Lib.hid h
  clear hc h
  go_enter Tryd.func119, Tryd.ntmps119
  go_wp2_with fail
  refine (cBelow HC.out h0 h1).mono ?_
  rintro e w1 ⟨k, rfl, hk, hd⟩
  obtain ⟨b, off, rfl, -, -, c0⟩ := IX.at (HV.out.dr_ hd ho).1 hk
  have HD := Lib.hid hd
  clear hd
  have i1 : (0 : Int) ≤ (k : Int) := by omega
  have i2 : (k : Int) < (L.length : Int) := by omega
  go_wp2
  go_ret
  exact ⟨L[k], rfl, List.getElem_mem hk, HD.out⟩
def oddsL : List Int := [-1, 0, 1, 2, 9, 10, 24, 25, 200, 201, 9999, 10000, 9223372036854775807, -9223372036854775808]
theorem cOdd {g : Nat} {w : World} (hc : Cur 110 w g) :
    Calls Tryd.prog 93 #[.pointer (some ⟨g, 0, none⟩)] w fun e w' => ∃ n, e = .returned (.int .i64 n) ∧ n ∈ oddsL ∧ Dr 110 g w w' := by
  have HC := Lib.hid hc
  have hlt := hc.lt
  clear hc
  go_enter Tryd.func93, Tryd.ntmps93
  go_wp2_with fail
  refine (cInt (HC.out.up (Up.al1 _ _)) (IX.row_ 3 w oddsL (by decide)) (.inr hlt) (by decide) (by decide)).mono ?_
  rintro e w1 ⟨n, rfl, hn, hd⟩
  have HD := Lib.hid (Dr.pre (Up.al1 _ _) hd)
  clear hd
  go_wp2
  go_ret
  exact ⟨_, rfl, hn, HD.out⟩
def atomsL : List ByteArray := [⟨#[97]⟩, ⟨#[98]⟩, ⟨#[99]⟩, ⟨#[49]⟩, ⟨#[50]⟩]
def wordsL : List ByteArray := [⟨#[97]⟩, ⟨#[98]⟩, ⟨#[111, 110]⟩, ⟨#[55]⟩, ⟨#[49, 48]⟩, ⟨#[57, 57, 57, 57]⟩, ⟨#[49, 48, 48, 48, 48]⟩, ⟨#[48, 48, 55]⟩, ⟨#[48]⟩, ⟨#[]⟩, ⟨#[65]⟩, ⟨#[63, 120]⟩, ⟨#[63, 63]⟩, ⟨#[63]⟩, ⟨#[97, 98, 99, 100, 101, 102, 103, 104]⟩, ⟨#[97, 98, 99, 100, 101, 102, 103, 104, 105]⟩, ⟨#[63, 97, 98, 99, 100, 101, 102, 103, 104]⟩, ⟨#[97, 45, 98]⟩, ⟨#[120, 49]⟩, ⟨#[49, 120]⟩, ⟨#[45, 51]⟩]
/-- what every drawn word is: short, none of the names that a renaming takes, not the word that begins an absence, and not the relation of the long list -/
def okW (s : ByteArray) : Bool := decide (s.size ≤ 9) && (decide (s ≠ ⟨#[63, 117, 49]⟩) && (decide (s ≠ ⟨#[63, 117, 50]⟩) && (decide (s ≠ ⟨#[63, 117, 51]⟩) && (decide (s.data.toList ≠ [110, 111, 116]) && decide (s.data.toList ≠ [110])))))
theorem okW_in {L : List ByteArray} (h : L.all okW = true) {s : ByteArray} (hs : s ∈ L) : okW s = true := List.all_eq_true.1 h s hs
theorem okW_size {s : ByteArray} (h : okW s = true) : s.size ≤ 9 := by unfold okW at h; simp only [Bool.and_eq_true, decide_eq_true_eq] at h; exact h.1
theorem okW_not {s : ByteArray} (h : okW s = true) : s.data.toList ≠ [110, 111, 116] := by unfold okW at h; simp only [Bool.and_eq_true, decide_eq_true_eq] at h; exact h.2.2.2.2.1
theorem okW_n {s : ByteArray} (h : okW s = true) : s.data.toList ≠ [110] := by unfold okW at h; simp only [Bool.and_eq_true, decide_eq_true_eq] at h; exact h.2.2.2.2.2
theorem atomsL_ok : atomsL.all okW = true := by decide
theorem wordsL_ok : wordsL.all okW = true := by decide
theorem cAtom {g : Nat} {w : World} (hc : Cur 110 w g) :
    Calls Tryd.prog 151 #[.pointer (some ⟨g, 0, none⟩)] w fun e w' => ∃ s, e = .returned (.string s) ∧ okW s = true ∧ Dr 110 g w w' := by
  have HC := Lib.hid hc
  have hlt := hc.lt
  clear hc
  go_enter Tryd.func151, Tryd.ntmps151
  go_wp2_with fail
  refine (cStr (HC.out.up (Up.al1 _ _)) (TX.row_ 9 w atomsL (by decide)) (.inr hlt) (by decide) (by decide)).mono ?_
  rintro e w1 ⟨s, rfl, hs, hd⟩
  have HS := Lib.hid (okW_in atomsL_ok hs)
  have HD := Lib.hid (Dr.pre (Up.al1 _ _) hd)
  clear hd hs
  go_wp2
  go_ret
  exact ⟨_, rfl, HS.out, HD.out⟩
theorem cWord {g : Nat} {w : World} (hc : Cur 110 w g) :
    Calls Tryd.prog 96 #[.pointer (some ⟨g, 0, none⟩)] w fun e w' => ∃ s, e = .returned (.string s) ∧ okW s = true ∧ Dr 110 g w w' := by
  have HC := Lib.hid hc
  have hlt := hc.lt
  clear hc
  go_enter Tryd.func96, Tryd.ntmps96
  go_wp2_with fail
  refine (cStr (HC.out.up (Up.al1 _ _)) (TX.row_ 9 w wordsL (by decide)) (.inr hlt) (by decide) (by decide)).mono ?_
  rintro e w1 ⟨s, rfl, hs, hd⟩
  have HS := Lib.hid (okW_in wordsL_ok hs)
  have HD := Lib.hid (Dr.pre (Up.al1 _ _) hd)
  clear hd hs
  go_wp2
  go_ret
  exact ⟨_, rfl, HS.out, HD.out⟩
end Go.Proofs.YtbflhchmaoigdaaDoor
