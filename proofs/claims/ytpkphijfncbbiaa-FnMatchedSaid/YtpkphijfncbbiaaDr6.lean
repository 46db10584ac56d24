/- Bindings that are drawn, and lists of pairs that may be none: of each it is said that it is short. -/
import Derived.Test.YtpkphijfncbbiaaDr4
import Derived.Test.YtpkphijfncbbiaaNum
import Derived.Test.YtpkphijfncbbiaaOrdA
import Derived.Test.YtpkphijfncbbiaaSl
namespace Go.Proofs.Ytpkphijfncbbiaa
open Go.RowKit
attribute [local go_sem ↓] Go.wp_at_zero Go.wp_at_succ
set_option linter.unusedVariables false
theorem Try.infoPairP : (Try.prog.info? 47).map (fun i => (i.zero, i.size, i.bytes)) = some (some (.agg #[.string ByteArray.empty, .string ByteArray.empty]), 2, 32) := by kernel_rfl
def smallP (n : Nat) (B : List (ByteArray × ByteArray)) : Prop := B.length ≤ n ∧ ∀ p ∈ B, p.1.size ≤ 30 ∧ p.2.size ≤ 30
theorem smallP_nil (n : Nat) : smallP n [] := ⟨Nat.zero_le _, fun p h => by cases h⟩
theorem smallP_snoc {n : Nat} {B : List (ByteArray × ByteArray)} {a b : ByteArray} (h : smallP n B) (ha : a.size ≤ 30) (hb : b.size ≤ 30) : smallP (n + 1) (B ++ [(a, b)]) :=
  ⟨by have := h.1; simp; omega, fun p hp => by
    rcases List.mem_append.1 hp with hp | hp
    · exact h.2 p hp
    · simp at hp; subst hp; exact ⟨ha, hb⟩⟩
theorem smallP_le {n m : Nat} {B : List (ByteArray × ByteArray)} (h : smallP n B) (hm : n ≤ m) : smallP m B := ⟨Nat.le_trans h.1 hm, h.2⟩
theorem smallP_psz {n : Nat} {B : List (ByteArray × ByteArray)} (h : smallP n B) : psz B ≤ n * 61 := by
  obtain ⟨h1, h2⟩ := h
  refine Nat.le_trans ?_ (Nat.mul_le_mul_right 61 h1)
  clear h1
  unfold psz
  induction B with
  | nil => simp [psum]
  | cons p r ih =>
    have h3 := h2 p (by simp)
    have h4 := ih fun q hq => h2 q (by simp [hq])
    simp only [psum, psz1, List.length_cons, Nat.add_mul, Nat.one_mul]
    omega
theorem own_ne_blk {w : World} {lo size n b : Nat} {E t : TypeId} {v : Value} {xs : List Value} {cs : Array Value} (h : w.ownsRow lo E size v n xs) (hb : Blk w b t cs) (hne : E ≠ t) : v.ownBlock ≠ some b := by
  rcases h.2 with ⟨rfl, -⟩ | ⟨g, cap, cur, rfl, -, hg, -⟩
  · simp [Value.ownBlock]
  · intro e
    simp only [Value.ownBlock, Option.some.injEq] at e
    subst e
    have hb' : w.heap[g]? = some (.cells cs t (0, 0)) := hb
    rw [hb'] at hg
    injection hg with e1
    injection e1 with _ e2
    exact hne e2.symm
theorem PO.up9 {E : TypeId} {w w' : World} {lo : Nat} {v : Value} {L : List (ByteArray × ByteArray)} (h : PO E w lo w.heap.size v L) (hb : Up w w') : PO E w' lo w'.heap.size v L :=
  (((show Ob (PO E) w lo w.heap.size v L from ⟨h, Nat.le_refl _⟩).up hb).1).mono (Nat.le_refl _) hb.size
theorem PO.dr9 {T E : TypeId} {g : Nat} {w w' : World} {lo : Nat} {v : Value} {L : List (ByteArray × ByteArray)} (h : PO E w lo w.heap.size v L) (hd : Dr T g w w') (hl : g < lo) : PO E w' lo w'.heap.size v L :=
  (((show Ob (PO E) w lo w.heap.size v L from ⟨h, Nat.le_refl _⟩).dr_ hd (.inr hl)).1).mono (Nat.le_refl _) hd.2.size
set_option maxHeartbeats 4000000 in
set_option maxRecDepth 100000 in
theorem cBind3 {g : Nat} {w : World} (hc : Cur 83 w g) :
    Calls Try.prog 75 #[.pointer (some ⟨g, 0, none⟩)] w fun e w' => ∃ v', e = .returned v' ∧ ∃ B, Ob (PO 47) w' w.heap.size w'.heap.size v' B ∧ smallP 3 B ∧ Dr 83 g w w' := by
  have hgl := hc.lt
  obtain ⟨i0, hi0, hz0, hz1, hz2⟩ := info_parts Try.infoPairP
  have hb0 : Up w ((w.alloc (.cells #[] 47)).alloc (.cells #[.string ⟨#[63, 120]⟩, .string ⟨#[63, 121]⟩, .string ⟨#[63, 122]⟩] 9)) := (Up.al1 _ _).al _
  have HS0 := Lib.hid ((PO.made_ 47 w).up9 (Up.al1 _ (.cells #[.string ⟨#[63, 120]⟩, .string ⟨#[63, 121]⟩, .string ⟨#[63, 122]⟩] 9)))
  have HK0 := Lib.hid (show Blk ((w.alloc (.cells #[] 47)).alloc (.cells #[.string ⟨#[63, 120]⟩, .string ⟨#[63, 121]⟩, .string ⟨#[63, 122]⟩] 9)) (w.heap.size + 1) 9 #[.string ⟨#[63, 120]⟩, .string ⟨#[63, 121]⟩, .string ⟨#[63, 122]⟩] from by have := Blk.new (w.alloc (.cells #[] 47)) 9 #[.string ⟨#[63, 120]⟩, .string ⟨#[63, 121]⟩, .string ⟨#[63, 122]⟩]; simpa using this)
  have HD0 := Lib.hid (Dr.of hc hb0)
  clear hc hb0
  go_enter Try.func75, Try.ntmps75
  go_wp2_with fail
  generalize ((w.alloc (.cells #[] 47)).alloc (.cells #[.string ⟨#[63, 120]⟩, .string ⟨#[63, 121]⟩, .string ⟨#[63, 122]⟩] 9)) = W at *
  go_loopw [3, 9] (fun o i wz => ∃ (ov : Value) (wr : World) (k : Nat) (M : List (ByteArray × ByteArray)), ov = o ∧ wr = wz ∧ k ≤ 3 ∧ i = .int .i64 k ∧ Hid (smallP k M) ∧ Hid (Dr 83 g w wr) ∧ Hid (Blk wr (w.heap.size + 1) 9 #[.string ⟨#[63, 120]⟩, .string ⟨#[63, 121]⟩, .string ⟨#[63, 122]⟩]) ∧ Hid (PO 47 wr w.heap.size wr.heap.size ov M)) (fun _ i _ => 3 - (intOf i).toNat)
  case atStart => exact ⟨_, _, 0, [], rfl, rfl, by omega, rfl, smallP_nil 0, HD0.out, HK0.out, HS0.out⟩
  case round =>
    clear HD0 HK0 HS0
    obtain ⟨ov, wr, k, M, rfl, rfl, hk, rfl, HM, HDr, HKr, HSr⟩ := hrel
    have hk4 : k = 0 ∨ k = 1 ∨ k = 2 ∨ k = 3 := by omega
    have hml := HM.out.1
    rcases hk4 with rfl | rfl | rfl | rfl
    · have c0 : wr.cell? ⟨w.heap.size + 1, 0, none⟩ = some (.string ⟨#[63, 120]⟩) := HKr.out.cell 0
      go_wp2_with fail
      refine (cOnce (n := 2) HDr.out.1 (by decide) (by decide)).mono ?_
      rintro e w2 ⟨b, rfl, hd⟩
      have HD2 := Lib.hid (HDr.out.tr hd)
      have HK2 := Lib.hid (HKr.out.dr_ hd (by omega))
      have HS2 := Lib.hid (HSr.out.dr9 hd hgl)
      clear hd HDr HKr HSr c0
      cases b
      · go_wp2
        exact ⟨⟨_, _, 1, M, rfl, rfl, by omega, by go_num, smallP_le HM.out (by omega), HD2.out, HK2.out, HS2.out⟩, by simp [intOf]⟩
      · go_wp2_with fail
        refine (cAtom HD2.out.1).mono ?_
        rintro e w3 ⟨s, rfl, hs, hd⟩
        have hsz := okW_size hs
        have HD := Lib.hid (HD2.out.tr hd)
        have HK := Lib.hid (HK2.out.dr_ hd (by omega))
        have HS := Lib.hid (HS2.out.dr9 hd hgl)
        have HM9 := Lib.hid (smallP_snoc (a := ⟨#[63, 120]⟩) (b := s) HM.out (by decide) (by omega))
        clear hd hs HD2 HK2 HS2
        have hown := HS.out.1
        have hrow : ∀ x, (ov : Value).ownBlock = some x → w.heap.size ≤ x := fun x hx => (hown.lt x hx).1
        have hkne := own_ne_blk hown HK.out (by decide)
        have hown1 := Lib.hid (hown.alloc (.cells #[.string ⟨#[63, 120]⟩, .string s] 47))
        have HN := Lib.hid (news2 (Blk.new w3 47 #[.string ⟨#[63, 120]⟩, .string s]))
        have hsw := HD.out.2.size
        have hbase : w.heap.size ≤ (w3.alloc (.cells #[.string ⟨#[63, 120]⟩, .string s] 47)).heap.size := by simp; omega
        clear hown
        go_wp2_with (at_builtin; refine wpList_append_own _ rfl _ _ 32 rfl w.heap.size 47 i0 _ 2 32 Try.underlying32 hi0 hz0 hz1 hz2 rfl (by decide) _ (M).length (flatP (M)) rfl hown1.out ⟨w3.heap.size, 0, none⟩ 1 1 [.string ⟨#[63, 120]⟩, .string s] rfl rfl HN.out (one2 rfl rfl) (by unfold maxLen; omega) (by omega) hbase ?_; intro v9 w9 hown' hgrow _)
        have HS9 : Hid (PO 47 w9 w.heap.size w9.heap.size v9 (M ++ [(⟨#[63, 120]⟩, s)])) := PO.snoc hown'
        have HD9 : Hid (Dr 83 g w w9) := HD.out.own (((Below.refl w.heap.size w3).alloc (by omega) _).grown hgrow (by simp; omega) hrow) hgl
        have HK9 : Hid (Blk w9 (w.heap.size + 1) 9 #[.string ⟨#[63, 120]⟩, .string ⟨#[63, 121]⟩, .string ⟨#[63, 122]⟩]) := (hgrow.block _ (HK.out.alloc _).lt (fun h => hkne h.symm)).trans (HK.out.alloc _)
        clear hown' hgrow hown1 HN hbase HS HD hrow HK hkne
        go_wp2
        exact ⟨⟨_, _, 1, _, rfl, rfl, by omega, by go_num, HM9.out, HD9.out, HK9.out, HS9.out⟩, by simp [intOf]⟩
    · have c0 : wr.cell? ⟨w.heap.size + 1, 1, none⟩ = some (.string ⟨#[63, 121]⟩) := HKr.out.cell 1
      go_wp2_with fail
      refine (cOnce (n := 2) HDr.out.1 (by decide) (by decide)).mono ?_
      rintro e w2 ⟨b, rfl, hd⟩
      have HD2 := Lib.hid (HDr.out.tr hd)
      have HK2 := Lib.hid (HKr.out.dr_ hd (by omega))
      have HS2 := Lib.hid (HSr.out.dr9 hd hgl)
      clear hd HDr HKr HSr c0
      cases b
      · go_wp2
        exact ⟨⟨_, _, 2, M, rfl, rfl, by omega, by go_num, smallP_le HM.out (by omega), HD2.out, HK2.out, HS2.out⟩, by simp [intOf]⟩
      · go_wp2_with fail
        refine (cAtom HD2.out.1).mono ?_
        rintro e w3 ⟨s, rfl, hs, hd⟩
        have hsz := okW_size hs
        have HD := Lib.hid (HD2.out.tr hd)
        have HK := Lib.hid (HK2.out.dr_ hd (by omega))
        have HS := Lib.hid (HS2.out.dr9 hd hgl)
        have HM9 := Lib.hid (smallP_snoc (a := ⟨#[63, 121]⟩) (b := s) HM.out (by decide) (by omega))
        clear hd hs HD2 HK2 HS2
        have hown := HS.out.1
        have hrow : ∀ x, (ov : Value).ownBlock = some x → w.heap.size ≤ x := fun x hx => (hown.lt x hx).1
        have hkne := own_ne_blk hown HK.out (by decide)
        have hown1 := Lib.hid (hown.alloc (.cells #[.string ⟨#[63, 121]⟩, .string s] 47))
        have HN := Lib.hid (news2 (Blk.new w3 47 #[.string ⟨#[63, 121]⟩, .string s]))
        have hsw := HD.out.2.size
        have hbase : w.heap.size ≤ (w3.alloc (.cells #[.string ⟨#[63, 121]⟩, .string s] 47)).heap.size := by simp; omega
        clear hown
        go_wp2_with (at_builtin; refine wpList_append_own _ rfl _ _ 32 rfl w.heap.size 47 i0 _ 2 32 Try.underlying32 hi0 hz0 hz1 hz2 rfl (by decide) _ (M).length (flatP (M)) rfl hown1.out ⟨w3.heap.size, 0, none⟩ 1 1 [.string ⟨#[63, 121]⟩, .string s] rfl rfl HN.out (one2 rfl rfl) (by unfold maxLen; omega) (by omega) hbase ?_; intro v9 w9 hown' hgrow _)
        have HS9 : Hid (PO 47 w9 w.heap.size w9.heap.size v9 (M ++ [(⟨#[63, 121]⟩, s)])) := PO.snoc hown'
        have HD9 : Hid (Dr 83 g w w9) := HD.out.own (((Below.refl w.heap.size w3).alloc (by omega) _).grown hgrow (by simp; omega) hrow) hgl
        have HK9 : Hid (Blk w9 (w.heap.size + 1) 9 #[.string ⟨#[63, 120]⟩, .string ⟨#[63, 121]⟩, .string ⟨#[63, 122]⟩]) := (hgrow.block _ (HK.out.alloc _).lt (fun h => hkne h.symm)).trans (HK.out.alloc _)
        clear hown' hgrow hown1 HN hbase HS HD hrow HK hkne
        go_wp2
        exact ⟨⟨_, _, 2, _, rfl, rfl, by omega, by go_num, HM9.out, HD9.out, HK9.out, HS9.out⟩, by simp [intOf]⟩
    · have c0 : wr.cell? ⟨w.heap.size + 1, 2, none⟩ = some (.string ⟨#[63, 122]⟩) := HKr.out.cell 2
      go_wp2_with fail
      refine (cOnce (n := 2) HDr.out.1 (by decide) (by decide)).mono ?_
      rintro e w2 ⟨b, rfl, hd⟩
      have HD2 := Lib.hid (HDr.out.tr hd)
      have HK2 := Lib.hid (HKr.out.dr_ hd (by omega))
      have HS2 := Lib.hid (HSr.out.dr9 hd hgl)
      clear hd HDr HKr HSr c0
      cases b
      · go_wp2
        exact ⟨⟨_, _, 3, M, rfl, rfl, by omega, by go_num, smallP_le HM.out (by omega), HD2.out, HK2.out, HS2.out⟩, by simp [intOf]⟩
      · go_wp2_with fail
        refine (cAtom HD2.out.1).mono ?_
        rintro e w3 ⟨s, rfl, hs, hd⟩
        have hsz := okW_size hs
        have HD := Lib.hid (HD2.out.tr hd)
        have HK := Lib.hid (HK2.out.dr_ hd (by omega))
        have HS := Lib.hid (HS2.out.dr9 hd hgl)
        have HM9 := Lib.hid (smallP_snoc (a := ⟨#[63, 122]⟩) (b := s) HM.out (by decide) (by omega))
        clear hd hs HD2 HK2 HS2
        have hown := HS.out.1
        have hrow : ∀ x, (ov : Value).ownBlock = some x → w.heap.size ≤ x := fun x hx => (hown.lt x hx).1
        have hkne := own_ne_blk hown HK.out (by decide)
        have hown1 := Lib.hid (hown.alloc (.cells #[.string ⟨#[63, 122]⟩, .string s] 47))
        have HN := Lib.hid (news2 (Blk.new w3 47 #[.string ⟨#[63, 122]⟩, .string s]))
        have hsw := HD.out.2.size
        have hbase : w.heap.size ≤ (w3.alloc (.cells #[.string ⟨#[63, 122]⟩, .string s] 47)).heap.size := by simp; omega
        clear hown
        go_wp2_with (at_builtin; refine wpList_append_own _ rfl _ _ 32 rfl w.heap.size 47 i0 _ 2 32 Try.underlying32 hi0 hz0 hz1 hz2 rfl (by decide) _ (M).length (flatP (M)) rfl hown1.out ⟨w3.heap.size, 0, none⟩ 1 1 [.string ⟨#[63, 122]⟩, .string s] rfl rfl HN.out (one2 rfl rfl) (by unfold maxLen; omega) (by omega) hbase ?_; intro v9 w9 hown' hgrow _)
        have HS9 : Hid (PO 47 w9 w.heap.size w9.heap.size v9 (M ++ [(⟨#[63, 122]⟩, s)])) := PO.snoc hown'
        have HD9 : Hid (Dr 83 g w w9) := HD.out.own (((Below.refl w.heap.size w3).alloc (by omega) _).grown hgrow (by simp; omega) hrow) hgl
        have HK9 : Hid (Blk w9 (w.heap.size + 1) 9 #[.string ⟨#[63, 120]⟩, .string ⟨#[63, 121]⟩, .string ⟨#[63, 122]⟩]) := (hgrow.block _ (HK.out.alloc _).lt (fun h => hkne h.symm)).trans (HK.out.alloc _)
        clear hown' hgrow hown1 HN hbase HS HD hrow HK hkne
        go_wp2
        exact ⟨⟨_, _, 3, _, rfl, rfl, by omega, by go_num, HM9.out, HD9.out, HK9.out, HS9.out⟩, by simp [intOf]⟩
    · go_wp2
      go_ret
      exact ⟨_, rfl, M, ⟨HSr.out, Nat.le_refl _⟩, HM.out, HDr.out⟩
set_option maxHeartbeats 4000000 in
set_option maxRecDepth 100000 in
theorem cAnyB {g : Nat} {w : World} (hc : Cur 83 w g) :
    Calls Try.prog 42 #[.pointer (some ⟨g, 0, none⟩)] w fun e w' => ∃ v', e = .returned v' ∧ ∃ B, Ob (PO 47) w' w.heap.size w'.heap.size v' B ∧ smallP 7 B ∧ Dr 83 g w w' := by
  have hgl := hc.lt
  obtain ⟨i0, hi0, hz0, hz1, hz2⟩ := info_parts Try.infoPairP
  have HC := Lib.hid hc
  clear hc
  go_enter Try.func42, Try.ntmps42
  go_wp2_with fail
  refine (cBind3 HC.out).mono ?_
  rintro e w1 ⟨v1, rfl, M, ho, hM, hd⟩
  have HD1 := Lib.hid hd
  have HS1 := Lib.hid ho.1
  have HM := Lib.hid hM
  have hml := hM.1
  clear ho hM hd HC
  go_wp2_with fail
  refine (cBelow (n := 10) HD1.out.1 (by decide) (by decide)).mono ?_
  rintro e w2 ⟨k, rfl, hk, hd⟩
  have HD2 := Lib.hid (HD1.out.tr hd)
  have HS2 := Lib.hid (HS1.out.dr9 hd hgl)
  clear hd HD1 HS1
  have hcs : k = 0 ∨ k = 1 ∨ 2 ≤ k := by omega
  rcases hcs with rfl | rfl | hk2
  · go_wp2_with fail
    refine (cWord HD2.out.1).mono ?_
    rintro e w3 ⟨a, rfl, ha, hd⟩
    have hza := okW_size ha
    have HD3 := Lib.hid (HD2.out.tr hd)
    have HS3 := Lib.hid (HS2.out.dr9 hd hgl)
    clear hd ha HD2 HS2
    go_wp2_with fail
    refine (cWord HD3.out.1).mono ?_
    rintro e w4 ⟨b, rfl, hb, hd⟩
    have hzb := okW_size hb
    have HD := Lib.hid (HD3.out.tr hd)
    have HS := Lib.hid (HS3.out.dr9 hd hgl)
    have HM9 := Lib.hid (smallP_le (smallP_snoc (a := a) (b := b) HM.out (by omega) (by omega)) (show 3 + 1 ≤ 7 by omega))
    clear hd hb HD3 HS3
    have hown := HS.out.1
    have hrow : ∀ x, (v1 : Value).ownBlock = some x → w.heap.size ≤ x := fun x hx => (hown.lt x hx).1
    have hown1 := Lib.hid (hown.alloc (.cells #[.string a, .string b] 47))
    have HN := Lib.hid (news2 (Blk.new w4 47 #[.string a, .string b]))
    have hsw := HD.out.2.size
    have hbase : w.heap.size ≤ (w4.alloc (.cells #[.string a, .string b] 47)).heap.size := by simp; omega
    clear hown
    go_wp2_with (at_builtin; refine wpList_append_own _ rfl _ _ 32 rfl w.heap.size 47 i0 _ 2 32 Try.underlying32 hi0 hz0 hz1 hz2 rfl (by decide) _ (M).length (flatP (M)) rfl hown1.out ⟨w4.heap.size, 0, none⟩ 1 1 [.string a, .string b] rfl rfl HN.out (one2 rfl rfl) (by unfold maxLen; omega) (by omega) hbase ?_; intro v9 w9 hown' hgrow _)
    have HS9 : Hid (PO 47 w9 w.heap.size w9.heap.size v9 (M ++ [(a, b)])) := PO.snoc hown'
    have HD9 : Hid (Dr 83 g w w9) := HD.out.own (((Below.refl w.heap.size w4).alloc (by omega) _).grown hgrow (by simp; omega) hrow) hgl
    clear hown' hgrow hown1 HN hbase HS HD hrow
    go_wp2
    go_ret
    exact ⟨_, rfl, _, ⟨HS9.out, Nat.le_refl _⟩, HM9.out, HD9.out⟩
  · have hs2 := HD2.out.2.size
    have hal : Up w2 (w2.alloc (.cells #[] 47)) := Up.al1 _ _
    have HSm := Lib.hid ((PO.made_ 47 w2).mono hs2 (Nat.le_refl _))
    have HDm := Lib.hid (HD2.out.up hal)
    have hws : (w2.alloc (.cells #[] 47)).heap.size = w2.heap.size + 1 := by simp
    have HCm := Lib.hid (HD2.out.1.up hal)
    go_wp2_with fail
    generalize (w2.alloc (.cells #[] 47)) = Wm at *
    rw [← hws]
    have hal2 : Up Wm (Wm.alloc (.cells ([5, 6, 7].map (Value.int .i64)).toArray 3)) := Up.al1 _ _
    refine (cInt (HCm.out.up hal2) (IX.row_ 3 Wm [5, 6, 7] (by decide)) (.inr HCm.out.lt) (by decide) (by decide)).mono ?_
    rintro e w3 ⟨q, rfl, hq, hd⟩
    have hdr := Dr.pre hal2 hd
    have HD3 := Lib.hid (HDm.out.tr hdr)
    have HS3 := Lib.hid (HSm.out.dr9 hdr hgl)
    obtain ⟨n, hn, rfl⟩ : ∃ n : Nat, n ≤ 7 ∧ q = (n : Int) := by
      simp only [List.mem_cons, List.not_mem_nil, or_false] at hq
      rcases hq with rfl | rfl | rfl
      · exact ⟨5, by decide, rfl⟩
      · exact ⟨6, by decide, rfl⟩
      · exact ⟨7, by decide, rfl⟩
    clear hd hdr hal hal2 hq HDm HSm HCm HD2 HS2 HM hml
    go_wp2_with fail
    go_loopw [3, 5] (fun o i wz => ∃ (ov : Value) (wr : World) (j : Nat) (M : List (ByteArray × ByteArray)), ov = o ∧ wr = wz ∧ j ≤ n ∧ i = .int .i64 j ∧ Hid (smallP j M) ∧ Hid (Dr 83 g w wr) ∧ Hid (PO 47 wr w.heap.size wr.heap.size ov M)) (fun _ i _ => n - (intOf i).toNat)
    case atStart => exact ⟨_, _, 0, [], rfl, rfl, by omega, rfl, smallP_nil 0, HD3.out, HS3.out⟩
    case round =>
      clear HD3 HS3
      obtain ⟨ov, wr, j, M, rfl, rfl, hj, rfl, HM, HDr, HSr⟩ := hrel
      have i1 : (0 : Int) ≤ (j : Int) := by omega
      have hml := HM.out.1
      by_cases hlt : j < n
      · have i2 : (j : Int) < (n : Int) := by omega
        have hit : (⟨(Lib.itoa j).toArray⟩ : ByteArray).size ≤ 3 := by
          have h1 : (⟨(Lib.itoa j).toArray⟩ : ByteArray).size = (Lib.itoa j).length := by simp [ByteArray.size]
          rw [h1, Lib.itoa_nonneg]
          exact dec_len 2 j (by omega)
        have hvs : ((⟨#[63, 118]⟩ : ByteArray) ++ ⟨(Lib.itoa j).toArray⟩).size ≤ 30 := by rw [ByteArray.size_append]; have : (⟨#[63, 118]⟩ : ByteArray).size = 2 := rfl; omega
        have r1 : ∀ W, (Op.stringOp .add ⟨#[63, 118]⟩ ⟨(Lib.itoa j).toArray⟩).run Try.prog W = .ok (.string (⟨#[63, 118]⟩ ++ ⟨(Lib.itoa j).toArray⟩)) W := fun W => run_string_add_sum W _ _ (by have : (⟨#[63, 118]⟩ : ByteArray).size = 2 := rfl; omega)
        go_wp2_with fail
        refine (cFormatIntS (n := (j : Int)) (by omega) (by omega)).mono ?_
        rintro e w3 ⟨rfl, b3⟩
        have HD3 := Lib.hid (HDr.out.up b3)
        have HS3 := Lib.hid (HSr.out.up9 b3)
        clear b3 HDr HSr
        go_wp2_with fail
        generalize ((⟨#[63, 118]⟩ : ByteArray) ++ ⟨(Lib.itoa j).toArray⟩) = nm at *
        refine (cAtom HD3.out.1).mono ?_
        rintro e w4 ⟨s, rfl, hs, hd⟩
        have hsz := okW_size hs
        have HD := Lib.hid (HD3.out.tr hd)
        have HS := Lib.hid (HS3.out.dr9 hd hgl)
        have HM9 := Lib.hid (smallP_snoc (a := nm) (b := s) HM.out hvs (by omega))
        clear hd hs HD3 HS3 r1 hit
        have hown := HS.out.1
        have hrow : ∀ x, (ov : Value).ownBlock = some x → w.heap.size ≤ x := fun x hx => (hown.lt x hx).1
        have hown1 := Lib.hid (hown.alloc (.cells #[.string nm, .string s] 47))
        have HN := Lib.hid (news2 (Blk.new w4 47 #[.string nm, .string s]))
        have hsw := HD.out.2.size
        have hbase : w.heap.size ≤ (w4.alloc (.cells #[.string nm, .string s] 47)).heap.size := by simp; omega
        clear hown
        go_wp2_with (at_builtin; refine wpList_append_own _ rfl _ _ 32 rfl w.heap.size 47 i0 _ 2 32 Try.underlying32 hi0 hz0 hz1 hz2 rfl (by decide) _ (M).length (flatP (M)) rfl hown1.out ⟨w4.heap.size, 0, none⟩ 1 1 [.string nm, .string s] rfl rfl HN.out (one2 rfl rfl) (by unfold maxLen; omega) (by omega) hbase ?_; intro v9 w9 hown' hgrow _)
        have HS9 : Hid (PO 47 w9 w.heap.size w9.heap.size v9 (M ++ [(nm, s)])) := PO.snoc hown'
        have HD9 : Hid (Dr 83 g w w9) := HD.out.own (((Below.refl w.heap.size w4).alloc (by omega) _).grown hgrow (by simp; omega) hrow) hgl
        clear hown' hgrow hown1 HN hbase HS HD hrow
        go_wp2
        exact ⟨⟨_, _, j + 1, _, rfl, rfl, by omega, by go_num, HM9.out, HD9.out, HS9.out⟩, by simp [intOf]; omega⟩
      · go_wp2
        go_ret
        exact ⟨_, rfl, M, ⟨HSr.out, Nat.le_refl _⟩, smallP_le HM.out (by omega), HDr.out⟩
  · have j0 : ((k : Int) == 0) = false := by rw [beq_eq_false_iff_ne]; omega
    have j1 : ((k : Int) == 1) = false := by rw [beq_eq_false_iff_ne]; omega
    go_wp2
    go_ret
    exact ⟨_, rfl, M, ⟨HS2.out, Nat.le_refl _⟩, smallP_le HM.out (by omega), HD2.out⟩
end Go.Proofs.Ytpkphijfncbbiaa
