/- The contracts of the laws' own functions on texts and lists of texts: their size, their copy, their equality, their marks; wherever the lengths are small enough to be counted. -/
import Derived.Test.YtlofgeiajcegcaaDoorProg
import Derived.Test.YtlofgeiajcegcaaDoorBase
namespace Go.Proofs.YtlofgeiajcegcaaDoor
open Go.RowKit
attribute [local go_sem ↓] Go.wp_at_zero Go.wp_at_succ
theorem Tryd.infoStr : (Tryd.prog.info? 9).map (fun i => (i.zero, i.size, i.bytes)) = some (some (.string ByteArray.empty), 1, 16) := by kernel_rfl
set_option maxHeartbeats 400000 in
theorem szT_any (v : Value) (L : List ByteArray) (left : Int) (lo hi : Nat) (w : World) (hv : TX w lo hi v L) (hs : ∀ s ∈ L, s.size ≤ 9223372036854775807) (h0 : 0 ≤ left) (h1 : left ≤ 1048576) :
    Calls Tryd.prog 25 #[v, .int .i64 left] w fun e w' => e = .returned (.int .i64 (szv left (tsz L))) ∧ w = w' := by
  have hlen := hv.len
  obtain ⟨a, cap, rfl, hlc, hcm, hv⟩ := hv
  go_enter Tryd.func25, Tryd.ntmps25
  by_cases hl : (L.length : Int) ≤ left
  · go_wp2
    go_loop [1, 5] (fun l i => ∃ (k : Nat) (m : Int), k ≤ L.length ∧ i = .int .i64 k ∧ l = .int .i64 m ∧ 0 ≤ m ∧ m ≤ 1048576 ∧ Hid (m = left - L.length - tsum (L.take k))) (fun _ i => L.length - (intOf i).toNat)
    case atStart => exact ⟨0, _, Nat.zero_le _, rfl, rfl, by omega, by omega, by simp [Hid, tsum]⟩
    case round =>
      obtain ⟨k, m, hk, rfl, rfl, hm0, hm1, H⟩ := hrel
      by_cases hlt : k < L.length
      · obtain ⟨b, off, rfl, -, -, hc⟩ := hv (by omega)
        have hc := hc k hlt
        have hsk := hs L[k] (List.getElem_mem hlt)
        have HT := Lib.hid (tsum_take_succ L k hlt)
        have HL := Lib.hid (tsum_take_le L (k+1))
        by_cases hm : (L[k].size : Int) ≤ m
        · go_wp2
          exact ⟨⟨k+1, m - L[k].size, by omega, by go_num, rfl, by omega, by omega, by have := H.out; have := HT.out; show _ = _; omega⟩, by simp [intOf]; omega⟩
        · go_wp2
          go_ret
          refine ⟨ret_int ?_, rfl⟩
          have := H.out; have := HT.out; have := HL.out
          unfold szv tsz; rw [if_neg (by omega)]
      · have HK : Hid (L.take k = L) := List.take_of_length_le (by omega)
        go_wp2
        go_ret
        refine ⟨ret_int ?_, rfl⟩
        have h := H.out
        rw [HK.out] at h
        unfold szv tsz; rw [if_pos (by omega)]; omega
  · go_wp2
    go_ret
    refine ⟨ret_int ?_, rfl⟩
    unfold szv tsz; rw [if_neg (by omega)]

set_option maxHeartbeats 400000 in
theorem eqT_any (v v' : Value) (L : List ByteArray) (lo hi lo' hi' : Nat) (w : World) (hv : TX w lo hi v L) (hv' : TX w lo' hi' v' L) (h1 : hi ≤ w.heap.size) (h2 : hi' ≤ w.heap.size) :
    Calls Tryd.prog 27 #[v, v'] w fun e w' => e = .returned (.bool true) ∧ Below w.heap.size w w' := by
  have hlen := hv.len
  obtain ⟨a, cap, rfl, hlc, hcm, hv⟩ := hv
  obtain ⟨a', cap', rfl, hlc', hcm', hv'⟩ := hv'
  go_enter Tryd.func27, Tryd.ntmps27
  go_wp2
  go_loopw [5] (fun i wr => ∃ (k : Nat), k ≤ L.length ∧ i = .int .i64 k ∧ Below w.heap.size w wr) (fun i _ => L.length - (intOf i).toNat)
  case atStart => exact ⟨0, Nat.zero_le _, rfl, Below.refl _ _⟩
  case round =>
    obtain ⟨k, hk, rfl, hb⟩ := hrel
    by_cases hlt : k < L.length
    · obtain ⟨b, off, rfl, -, hbh, hc⟩ := hv (by omega)
      obtain ⟨b', off', rfl, -, hbh', hc'⟩ := hv' (by omega)
      have c1 := (hb.cell (p := ⟨b, off + k, none⟩) (by show b < _; omega)).trans (hc k hlt)
      have c2 := (hb.cell (p := ⟨b', off' + k, none⟩) (by show b' < _; omega)).trans (hc' k hlt)
      clear hc hc' hv hv'
      have i1 : (0 : Int) ≤ (k : Int) := by omega
      have i2 : (k : Int) < (L.length : Int) := by omega
      go_wp2
      go_quiet (fail)
      go_wp2
      exact ⟨⟨k+1, by omega, by go_num, below_drewN hb _⟩, by simp [intOf]; omega⟩
    · go_wp2
      go_ret
      exact ⟨rfl, hb⟩

set_option maxHeartbeats 400000 in
theorem toT_any (v : Value) (L : List ByteArray) (lo hi : Nat) (w : World) (hv : TX w lo hi v L) (hs : L.length ≤ 1048576) (h1 : hi ≤ w.heap.size) :
    Calls Tryd.prog 26 #[v] w fun e w' => ∃ v', e = .returned v' ∧ TO 9 w' w.heap.size w'.heap.size v' L ∧ Below w.heap.size w w' := by
  have hlen := hv.len
  obtain ⟨a, cap, rfl, hlc, hcm, hv⟩ := hv
  obtain ⟨i0, hi0, hz0, hz1, hz2⟩ := info_parts Tryd.infoStr
  go_enter Tryd.func26, Tryd.ntmps26
  go_wp2_with (at_make; refine wpList_make_full _ rfl _ _ 27 rfl w.heap.size 9 i0 _ 1 Tryd.underlying27 hi0 hz0 hz1 .i64 .i64 _ _ L.length rfl rfl rfl rfl (by rw [hz2]; omega) (by unfold maxLen; omega) (Nat.le_refl _) ?_; intro w1 hown hgrow)
  have hbel : Below w.heap.size w w1 := (Below.refl _ _).grown hgrow (Nat.le_refl _) (by simp)
  have hH := hown.lt w.heap.size rfl
  clear hgrow
  generalize hG : w.heap.size = G at *
  have HG := Lib.hid hG; clear hG
  go_loopw [4] (fun i wr => ∃ (k : Nat), k ≤ L.length ∧ i = .int .i64 k ∧ Below G w wr ∧ ∃ xs, wr.ownsRow G 9 1 (.slice (some ⟨G, 0, none⟩) L.length L.length) L.length xs ∧ Hid (xs.take k = (L.map Value.string).take k)) (fun i _ => L.length - (intOf i).toNat)
  case atStart => exact ⟨0, Nat.zero_le _, rfl, hbel, _, hown, by simp [Hid]⟩
  case round =>
    clear hown hbel
    obtain ⟨k, hk, rfl, hb, xs, hown, hxs⟩ := hrel
    by_cases hlt : k < L.length
    · obtain ⟨b, off, rfl, -, hbh, hc⟩ := hv (by omega)
      have c1 := (hb.cell (p := ⟨b, off + k, none⟩) (by show b < _; omega)).trans (hc k hlt)
      obtain ⟨x2, c2⟩ := ownsRow_ex hown k (by omega)
      have c3 := hown.frozenAt k
      have HS := Lib.hid (hown.stored k (.string L[k]))
      have HX : Hid ((xs.set k (.string L[k])).take (k+1) = (L.map Value.string).take (k+1)) := set_take_succ hxs.out (by have := hown.1; omega) (by simp [hlt])
      clear hc hv hown hxs
      have i1 : (0 : Int) ≤ (k : Int) := by omega
      have i2 : (k : Int) < (L.length : Int) := by omega
      go_wp2
      exact ⟨⟨k+1, by omega, by go_num, hb.setCell (Nat.le_refl _) _, _, HS.out.1, HX⟩, by simp [intOf]; omega⟩
    · go_wp2
      go_ret
      have := hown.1
      have e : xs = L.map Value.string := by
        have h := hxs.out
        rwa [List.take_of_length_le (by omega), List.take_of_length_le (by simp; omega)] at h
      subst e
      have HG := HG.out
      refine ⟨_, rfl, ⟨by rw [HG]; exact hown, fun g hg => ?_⟩, by rw [HG]; exact hb⟩
      have := (hown.lt g hg).2
      exact this
end Go.Proofs.YtlofgeiajcegcaaDoor
