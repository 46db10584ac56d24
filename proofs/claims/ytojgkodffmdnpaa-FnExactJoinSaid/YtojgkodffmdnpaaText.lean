/- The contracts of the laws' own functions on texts and lists of texts: their size, their copy, their equality, their marks; wherever the lengths are small enough to be counted. -/
import Derived.Test.YtojgkodffmdnpaaProg
import Derived.Test.YtojgkodffmdnpaaBase
namespace Go.Proofs.Ytojgkodffmdnpaa
open Go.RowKit
attribute [local go_sem ↓] Go.wp_at_zero Go.wp_at_succ
theorem Try.infoStr : (Try.prog.info? 9).map (fun i => (i.zero, i.size, i.bytes)) = some (some (.string ByteArray.empty), 1, 16) := by kernel_rfl
set_option maxHeartbeats 400000 in
theorem szT_any (v : Value) (L : List ByteArray) (left : Int) (lo hi : Nat) (w : World) (hv : TX w lo hi v L) (hs : ∀ s ∈ L, s.size ≤ 9223372036854775807) (h0 : 0 ≤ left) (h1 : left ≤ 1048576) :
    Calls Try.prog 60 #[v, .int .i64 left] w fun e w' => e = .returned (.int .i64 (szv left (tsz L))) ∧ w = w' := by
  have hlen := hv.len
  obtain ⟨a, cap, rfl, hlc, hcm, hv⟩ := hv
  go_enter Try.func60, Try.ntmps60
  by_cases hl : (L.length : Int) ≤ left
  · go_wp2
    go_loop [1, 5] (fun l i => ∃ (k : Nat) (m : Int), k ≤ L.length ∧ i = .int .i64 k ∧ l = .int .i64 m ∧ 0 ≤ m ∧ m ≤ 1048576 ∧ Hid (m = left - L.length - tsum (L.take k))) (fun _ i => L.length - (intOf i).toNat)
    case atStart => exact ⟨0, _, Nat.zero_le _, rfl, rfl, by omega, by omega, by simp [Hid, tsum]⟩
    case round =>
      obtain ⟨k, m, hk, rfl, rfl, hm0, hm1, H⟩ := hrel
      by_cases hlt : k < L.length
      · obtain ⟨b, off, rfl, -, -, hc⟩ := hv (by omega)
        have hc := hc k hlt
        have hsk := hs L[k] (List.getElem_mem hlt)
        have HT := Lib.hid (tsum_take_succ L k hlt)
        have HL := Lib.hid (tsum_take_le L (k+1))
        by_cases hm : (L[k].size : Int) ≤ m
        · go_wp2
          exact ⟨⟨k+1, m - L[k].size, by omega, by go_num, rfl, by omega, by omega, by have := H.out; have := HT.out; show _ = _; omega⟩, by simp [intOf]; omega⟩
        · go_wp2
          go_ret
          refine ⟨ret_int ?_, rfl⟩
          have := H.out; have := HT.out; have := HL.out
          unfold szv tsz; rw [if_neg (by omega)]
      · have HK : Hid (L.take k = L) := List.take_of_length_le (by omega)
        go_wp2
        go_ret
        refine ⟨ret_int ?_, rfl⟩
        have h := H.out
        rw [HK.out] at h
        unfold szv tsz; rw [if_pos (by omega)]; omega
  · go_wp2
    go_ret
    refine ⟨ret_int ?_, rfl⟩
    unfold szv tsz; rw [if_neg (by omega)]

set_option maxHeartbeats 400000 in
theorem eqT_any (v v' : Value) (L : List ByteArray) (lo hi lo' hi' : Nat) (w : World) (hv : TX w lo hi v L) (hv' : TX w lo' hi' v' L) (h1 : hi ≤ w.heap.size) (h2 : hi' ≤ w.heap.size) :
    Calls Try.prog 64 #[v, v'] w fun e w' => e = .returned (.bool true) ∧ Below w.heap.size w w' := by
  have hlen := hv.len
  obtain ⟨a, cap, rfl, hlc, hcm, hv⟩ := hv
  obtain ⟨a', cap', rfl, hlc', hcm', hv'⟩ := hv'
  go_enter Try.func64, Try.ntmps64
  go_wp2
  go_loopw [5] (fun i wr => ∃ (k : Nat), k ≤ L.length ∧ i = .int .i64 k ∧ Below w.heap.size w wr) (fun i _ => L.length - (intOf i).toNat)
  case atStart => exact ⟨0, Nat.zero_le _, rfl, Below.refl _ _⟩
  case round =>
    obtain ⟨k, hk, rfl, hb⟩ := hrel
    by_cases hlt : k < L.length
    · obtain ⟨b, off, rfl, -, hbh, hc⟩ := hv (by omega)
      obtain ⟨b', off', rfl, -, hbh', hc'⟩ := hv' (by omega)
      have c1 := (hb.cell (p := ⟨b, off + k, none⟩) (by show b < _; omega)).trans (hc k hlt)
      have c2 := (hb.cell (p := ⟨b', off' + k, none⟩) (by show b' < _; omega)).trans (hc' k hlt)
      clear hc hc' hv hv'
      have i1 : (0 : Int) ≤ (k : Int) := by omega
      have i2 : (k : Int) < (L.length : Int) := by omega
      go_wp2
      go_quiet (fail)
      go_wp2
      exact ⟨⟨k+1, by omega, by go_num, below_drewN hb _⟩, by simp [intOf]; omega⟩
    · go_wp2
      go_ret
      exact ⟨rfl, hb⟩

set_option maxHeartbeats 400000 in
theorem toT_any (v : Value) (L : List ByteArray) (lo hi : Nat) (w : World) (hv : TX w lo hi v L) (hs : L.length ≤ 1048576) (h1 : hi ≤ w.heap.size) :
    Calls Try.prog 62 #[v] w fun e w' => ∃ v', e = .returned v' ∧ TO 9 w' w.heap.size w'.heap.size v' L ∧ Below w.heap.size w w' := by
  have hlen := hv.len
  obtain ⟨a, cap, rfl, hlc, hcm, hv⟩ := hv
  obtain ⟨i0, hi0, hz0, hz1, hz2⟩ := info_parts Try.infoStr
  go_enter Try.func62, Try.ntmps62
  go_wp2_with (at_make; refine wpList_make_full _ rfl _ _ 22 rfl w.heap.size 9 i0 _ 1 Try.underlying22 hi0 hz0 hz1 .i64 .i64 _ _ L.length rfl rfl rfl rfl (by rw [hz2]; omega) (by unfold maxLen; omega) (Nat.le_refl _) ?_; intro w1 hown hgrow)
  have hbel : Below w.heap.size w w1 := (Below.refl _ _).grown hgrow (Nat.le_refl _) (by simp)
  have hH := hown.lt w.heap.size rfl
  clear hgrow
  generalize hG : w.heap.size = G at *
  have HG := Lib.hid hG; clear hG
  go_loopw [4] (fun i wr => ∃ (k : Nat), k ≤ L.length ∧ i = .int .i64 k ∧ Below G w wr ∧ ∃ xs, wr.ownsRow G 9 1 (.slice (some ⟨G, 0, none⟩) L.length L.length) L.length xs ∧ Hid (xs.take k = (L.map Value.string).take k)) (fun i _ => L.length - (intOf i).toNat)
  case atStart => exact ⟨0, Nat.zero_le _, rfl, hbel, _, hown, by simp [Hid]⟩
  case round =>
    clear hown hbel
    obtain ⟨k, hk, rfl, hb, xs, hown, hxs⟩ := hrel
    by_cases hlt : k < L.length
    · obtain ⟨b, off, rfl, -, hbh, hc⟩ := hv (by omega)
      have c1 := (hb.cell (p := ⟨b, off + k, none⟩) (by show b < _; omega)).trans (hc k hlt)
      obtain ⟨x2, c2⟩ := ownsRow_ex hown k (by omega)
      have c3 := hown.frozenAt k
      have HS := Lib.hid (hown.stored k (.string L[k]))
      have HX : Hid ((xs.set k (.string L[k])).take (k+1) = (L.map Value.string).take (k+1)) := set_take_succ hxs.out (by have := hown.1; omega) (by simp [hlt])
      clear hc hv hown hxs
      have i1 : (0 : Int) ≤ (k : Int) := by omega
      have i2 : (k : Int) < (L.length : Int) := by omega
      go_wp2
      exact ⟨⟨k+1, by omega, by go_num, hb.setCell (Nat.le_refl _) _, _, HS.out.1, HX⟩, by simp [intOf]; omega⟩
    · go_wp2
      go_ret
      have := hown.1
      have e : xs = L.map Value.string := by
        have h := hxs.out
        rwa [List.take_of_length_le (by omega), List.take_of_length_le (by simp; omega)] at h
      subst e
      have HG := HG.out
      refine ⟨_, rfl, ⟨by rw [HG]; exact hown, fun g hg => ?_⟩, by rw [HG]; exact hb⟩
      have := (hown.lt g hg).2
      exact this
set_option maxHeartbeats 400000 in
theorem markText_any (k : Nat) (w : World) (h0 : 1 ≤ k) (h1 : k ≤ 1000000000000) :
    Calls Try.prog 82 #[.int .i64 k] w fun e w' => e = .returned (.string (markTxt k)) ∧ Below w.heap.size w w' := by
  have kc := @run_one_byte Try.prog 135 5 9 Try.underlying135 Try.underlying5 Try.underlying9
  go_enter Try.func82, Try.ntmps82
  go_wp2
  go_loopw [0, 3] (fun i s wr => ∃ (m f : Nat) (acc : ByteArray), m ≤ k ∧ i = .int .i64 m ∧ s = .string acc ∧ m ≤ f ∧ acc.size + m ≤ k ∧ Hid (mkDig f m acc = mkDig k k ⟨#[]⟩) ∧ Below w.heap.size w wr) (fun i _ _ => (intOf i).toNat)
  case atStart => exact ⟨k, k, _, by omega, rfl, rfl, by omega, by simp [ByteArray.size], rfl, Below.refl _ _⟩
  case round =>
    obtain ⟨m, f, acc, hm, rfl, rfl, hf, hsz, HD, hb⟩ := hrel
    have i1 : (0 : Int) ≤ (m : Int) := by omega
    by_cases hz : m = 0
    · subst hz
      have hz1 : 1 + acc.size ≤ 9223372036854775807 := by omega
      go_wp2
      go_ret
      have := HD.out
      rw [mkDig_zero] at this
      exact ⟨ret_str (by unfold markTxt; rw [this]), hb⟩
    · have i2 : (0 : Int) < (m : Int) := by omega
      obtain ⟨f, rfl⟩ : ∃ g, f = g + 1 := ⟨f - 1, by omega⟩
      clear hz
      have hz1 : (strOfNums [48 + (m : Int) % 10]).size + acc.size ≤ 9223372036854775807 := by rw [strOfNums_size]; simp; omega
      go_wp2
      exact ⟨⟨m/10, f, dig10 m ++ acc, by omega, by go_num, rfl, by omega, by rw [ByteArray.size_append]; simp only [dig10, strOfNums_size, List.length_singleton]; omega, by have := HD.out; rw [mkDig, if_neg (by omega)] at this; exact this, hb.alloc (hb.size) _⟩, by simp [intOf]; omega⟩

set_option maxHeartbeats 400000 in
theorem heldT_any (v : Value) (n k0 : Nat) (lo hi : Nat) (w : World) (hv : TX w lo hi v (markL k0 n)) (h1 : hi ≤ w.heap.size) (h2 : 1 ≤ k0) (h3 : k0 + n ≤ 1000000000) :
    Calls Try.prog 66 #[v, .int .i64 k0] w fun e w' => e = .returned (.int .i64 (k0 + n : Nat)) ∧ Below w.heap.size w w' := by
  obtain ⟨a, cap, rfl, hlc, hcm, hv⟩ := hv
  simp only [markL_len] at hlc hv ⊢
  go_enter Try.func66, Try.ntmps66
  go_wp2
  go_loopw [1, 5] (fun q i wr => ∃ (k : Nat), k ≤ n ∧ i = .int .i64 k ∧ q = .int .i64 (k0 + k : Nat) ∧ Below w.heap.size w wr) (fun _ i _ => n - (intOf i).toNat)
  case atStart => exact ⟨0, Nat.zero_le _, rfl, rfl, Below.refl _ _⟩
  case round =>
    obtain ⟨k, hk, rfl, rfl, hb⟩ := hrel
    by_cases hlt : k < n
    · obtain ⟨b, off, rfl, -, hbh, hc⟩ := hv (by omega)
      have c1 := (hb.cell (p := ⟨b, off + k, none⟩) (by show b < _; omega)).trans (hc k hlt)
      rw [markL_get k0 n k hlt] at c1
      clear hc hv
      have i1 : (0 : Int) ≤ (k : Int) := by omega
      have i2 : (k : Int) < (n : Int) := by omega
      go_wp2_with fail
      go_region_held3 (fun w' => w'.cell? ⟨b, off + k, none⟩ = some (.string (markTxt (k0 + k)))) (first | go_keep | exact keepCell (by assumption) (by assumption)) (first | (go_at_call 82; refine (markText_any _ _ (by omega) (by omega)).mono ?_; rintro e w' ⟨rfl, hb1⟩))
      have hB : Below w.heap.size w w' := hb.drew.trans (hb1.mono hb.size)
      clear hb1 c1 hb
      go_wp2
      exact ⟨⟨k+1, by omega, by go_num, by go_num, hB⟩, by simp [intOf]; omega⟩
    · go_wp2
      go_ret
      obtain rfl : k = n := by omega
      exact ⟨rfl, hb⟩

set_option maxHeartbeats 400000 in
theorem markT_any (v : Value) (L : List ByteArray) (k0 : Nat) (lo hi : Nat) (w : World) (hv : TO 9 w lo hi v L) (h2 : 1 ≤ k0) (h3 : k0 + L.length ≤ 1000000000) :
    Calls Try.prog 65 #[v, .int .i64 k0] w fun e w' => e = .returned (.int .i64 (k0 + L.length : Nat)) ∧ TO 9 w' lo hi v (markL k0 L.length) ∧ w.grownBy w' v.ownBlock := by
  have hbd := hv.2
  have hown := hv.1
  have hle := hv.tx.len
  by_cases hz : L.length = 0
  · obtain rfl : L = [] := List.eq_nil_of_length_eq_zero hz
    obtain ⟨a, cap, rfl, -, -, -⟩ := hv.tx
    have HV := Lib.hid hv
    clear hv hbd hown
    go_enter Try.func65, Try.ntmps65
    go_wp2
    go_loop [1, 5] (fun q i => q = .int .i64 k0 ∧ i = .int .i64 0) (fun _ _ => 0)
    case atStart => exact ⟨rfl, rfl⟩
    case round =>
      obtain ⟨rfl, rfl⟩ := hrel
      go_wp2
      go_ret
      exact ⟨rfl, HV.out, World.grownBy.refl _ _⟩
  · obtain ⟨g, cap, rfl, -, hg⟩ := hown.form (by omega)
    have HH := Lib.hid (hbd g rfl)
    clear hv hbd
    go_enter Try.func65, Try.ntmps65
    go_wp2
    go_loopw [1, 5] (fun q i wr => ∃ (k : Nat), k ≤ L.length ∧ i = .int .i64 k ∧ q = .int .i64 (k0 + k : Nat) ∧ w.grownBy wr (some g) ∧ ∃ xs, wr.ownsRow lo 9 1 (.slice (some ⟨g, 0, none⟩) L.length cap) L.length xs ∧ Hid (xs.take k = ((markL k0 L.length).map Value.string).take k)) (fun _ i _ => L.length - (intOf i).toNat)
    case atStart => exact ⟨0, Nat.zero_le _, rfl, rfl, World.grownBy.refl _ _, _, hown, by simp [Hid]⟩
    case round =>
      clear hown
      obtain ⟨k, hk, rfl, rfl, hgr, xs, hown, hxs⟩ := hrel
      by_cases hlt : k < L.length
      · have i1 : (0 : Int) ≤ (k : Int) := by omega
        have i2 : (k : Int) < (L.length : Int) := by omega
        have HX : Hid ((xs.set k (.string (markTxt (k0 + k)))).take (k+1) = ((markL k0 L.length).map Value.string).take (k+1)) :=
          set_take_succ hxs.out (by have := hown.1; omega) (by rw [List.getElem?_map, List.getElem?_eq_getElem (by rw [markL_len]; exact hlt), markL_get k0 _ k hlt]; rfl)
        clear hxs
        go_wp2_with fail
        refine (markText_any (k0 + k) _ (by omega) (by omega)).mono ?_
        rintro e w1 ⟨rfl, hb1⟩
        have hown1 := owns_below hown hb1
        have hgr1 := grown_below hgr hb1
        obtain ⟨x2, c2⟩ := ownsRow_ex hown1 k (by omega)
        have c3 := hown1.frozenAt k
        have HS := Lib.hid (hown1.stored k (.string (markTxt (k0 + k))))
        clear hown1 hown hgr hb1
        go_wp2
        exact ⟨⟨k+1, by omega, by go_num, by go_num, grown_trans hgr1 HS.out.2, _, HS.out.1, HX⟩, by simp [intOf]; omega⟩
      · obtain rfl : k = L.length := by omega
        go_wp2
        go_ret
        have hl := hown.1
        have e : xs = (markL k0 L.length).map Value.string := by
          have h := hxs.out
          rwa [List.take_of_length_le (by omega), List.take_of_length_le (by simp [markL_len])] at h
        subst e
        refine ⟨rfl, ⟨by rw [markL_len]; exact hown, ?_⟩, hgr⟩
        intro g' hg'
        obtain rfl : g = g' := by simpa [Value.ownBlock] using hg'
        exact HH.out
end Go.Proofs.Ytojgkodffmdnpaa
