/- ParseInt and FormatInt, the program's and the reference's: one plain function of the text; where the library's table of powers and its error variable hold what start-up lays. -/
import Derived.Lib.ItoaMem
import Derived.Lib.ItoaLen
import Derived.Lib.AtoiErr
import Derived.Lib.AtoiErrMem
import Derived.Lib.LaidTab
import Derived.LaidSub
import Derived.LaidMore
import Derived.Stop.LaidErr
import Derived.Test.YtpjklnngigkkiaaDoorRows
import Derived.Test.YtpjklnngigkkiaaDoorAtom
import Derived.Test.YtpjklnngigkkiaaDoorOb
import Derived.Test.YtpjklnngigkkiaaDoorShelf
namespace Go.Proofs.YtpjklnngigkkiaaDoor
open Go.RowKit
attribute [local go_sem ↓] Go.wp_at_zero Go.wp_at_succ
set_option linter.unusedVariables false
theorem decDigits_dig (u : Nat) : ∀ b ∈ Lib.decDigits u, 48 ≤ b.toNat ∧ b.toNat ≤ 57 := by
  induction u using Nat.strongRecOn with
  | ind u ih =>
    intro b hb
    rw [Lib.decDigits] at hb
    split at hb
    · simp only [List.mem_singleton] at hb; subst hb; rw [UInt8.toNat_ofNat']; omega
    · rw [List.mem_append] at hb; rcases hb with hb | hb
      · exact ih _ (by omega) b hb
      · simp only [List.mem_singleton] at hb; subst hb; rw [UInt8.toNat_ofNat']; omega
theorem decFrom_lt : ∀ (l : List UInt8) (acc n : Nat), Lib.decFrom acc l = some n → n < (acc + 1) * 10 ^ l.length
  | [], acc, n, h => by simp [Lib.decFrom] at h; simp; omega
  | b :: r, acc, n, h => by
    simp only [Lib.decFrom] at h
    cases hd : Lib.digitVal b with
    | none => simp [hd] at h
    | some d =>
      simp only [hd] at h
      have h1 := decFrom_lt r _ n h
      have h2 : d ≤ 9 := by unfold Lib.digitVal at hd; split at hd <;> simp at hd; omega
      rw [List.length_cons, Nat.pow_succ]
      have h3 : (acc * 10 + d + 1) * 10 ^ r.length ≤ ((acc + 1) * 10) * 10 ^ r.length := Nat.mul_le_mul_right _ (by omega)
      have h4 : ((acc + 1) * 10) * 10 ^ r.length = (acc + 1) * (10 ^ r.length * 10) := by rw [Nat.mul_assoc, Nat.mul_comm 10]
      omega
/-- a number's text: one to four digits, no sign, no zero ahead of others -/
def numVal (s : ByteArray) : Option Nat := if 1 ≤ s.size ∧ s.size ≤ 4 then (match Lib.decFrom 0 s.data.toList with | some m => if Lib.decDigits m = s.data.toList then some m else none | none => none) else none
def numV (s : ByteArray) : Int := match numVal s with | some m => m | none => 0
def numOk (s : ByteArray) : Bool := (numVal s).isSome
theorem num_len {s : ByteArray} (h : ¬ (1 ≤ s.size ∧ s.size ≤ 4)) : numVal s = none := by unfold numVal; rw [if_neg h]
theorem num_no {s : ByteArray} (h : Lib.decFrom 0 s.data.toList = none) : numVal s = none := by unfold numVal; rw [h]; split <;> rfl
theorem num_ne {s : ByteArray} {m : Nat} (h : Lib.decFrom 0 s.data.toList = some m) (h' : Lib.decDigits m ≠ s.data.toList) : numVal s = none := by unfold numVal; rw [h]; simp [h']
theorem num_is {s : ByteArray} {m : Nat} (h0 : 1 ≤ s.size) (h1 : s.size ≤ 4) (h : Lib.decFrom 0 s.data.toList = some m) (h' : Lib.decDigits m = s.data.toList) : numVal s = some m := by unfold numVal; rw [h]; simp [h', h0, h1]
theorem num_bound {s : ByteArray} {m : Nat} (h : Lib.decFrom 0 s.data.toList = some m) (h1 : s.size ≤ 4) : m ≤ 9999 := by
  have h2 := decFrom_lt _ _ _ h
  have h3 : s.data.toList.length ≤ 4 := by simpa using h1
  have h4 : 10 ^ s.data.toList.length ≤ 10 ^ 4 := Nat.pow_le_pow_right (by omega) h3
  omega
theorem ret_ib {a a' : Int} {b b' : Bool} (h : a = a') (h' : b = b') : Ending.returned (.tuple #[.int .i64 a, .bool b]) = .returned (.tuple #[.int .i64 a', .bool b']) := by rw [h, h']
theorem num_none {s : ByteArray} (h : numVal s = none) : (0 : Int) = numV s ∧ false = numOk s := by unfold numV numOk; rw [h]; exact ⟨rfl, rfl⟩
theorem num_some {s : ByteArray} {m : Nat} (h : numVal s = some m) : (m : Int) = numV s ∧ true = numOk s := by unfold numV numOk; rw [h]; exact ⟨rfl, rfl⟩
theorem digs_eq {l : List UInt8} {s : ByteArray} : (l == s.toList) = true ↔ l = s.data.toList := by
  rw [ByteArray.toList_eq]; simp
theorem digs_ne {l : List UInt8} {s : ByteArray} (h : (l == s.toList) = false) : l ≠ s.data.toList := fun e => by rw [digs_eq.2 e] at h; cases h
/-- what the decimal numeral of the number that Atoi reads says of the text -/
theorem atoi_none_num {s : ByteArray} (h : Lib.atoi s.data.toList = none) : numVal s = none := by
  rcases Lib.atoi_none_cases h with h | ⟨b0, r, e, ⟨h45, -⟩ | ⟨-, -, h⟩⟩
  · apply num_len; intro ⟨h1, _⟩
    have e : s.data.toList.length = s.size := by simp
    rw [h] at e; have e : 0 = s.size := e; omega
  · apply num_no; rw [e]; simp only [Lib.decFrom]
    have : Lib.digitVal b0 = none := by unfold Lib.digitVal; rcases h45 with rfl | rfl <;> rfl
    rw [this]
  · apply num_no; rw [e]; exact h
theorem atoi_num {s : ByteArray} {n : Int} (h : Lib.atoi s.data.toList = some n) (h0 : 1 ≤ s.size) (h1 : s.size ≤ 4) :
    (n < 0 ∧ numVal s = none) ∨ (∃ m : Nat, n = m ∧ m ≤ 9999 ∧ Lib.itoa n = Lib.decDigits m ∧ ((Lib.decDigits m = s.data.toList ∧ numVal s = some m) ∨ (Lib.decDigits m ≠ s.data.toList ∧ numVal s = none))) := by
  have hlen : s.data.toList.length ≤ 4 := by simpa using h1
  obtain ⟨b0, r, e, hc⟩ := Lib.atoi_cases h
  rw [e] at hlen
  simp only [List.length_cons] at hlen
  have hp : 10 ^ r.length ≤ 10 ^ 3 := Nat.pow_le_pow_right (by omega) (by omega)
  have hs : ∀ m : Nat, Lib.digitVal b0 = none → Lib.decDigits m ≠ s.data.toList ∧ numVal s = none := fun m hd => by
    refine ⟨fun e' => ?_, num_no (by rw [e]; simp only [Lib.decFrom, hd])⟩
    have := decDigits_dig m b0 (by rw [e', e]; simp)
    unfold Lib.digitVal at hd; rw [if_pos this] at hd; cases hd
  rcases hc with ⟨rfl, m, hr, hm, rfl⟩ | ⟨rfl, m, hr, hm, rfl⟩ | ⟨-, -, m, hm, rfl⟩
  · by_cases hz : m = 0
    · subst hz
      exact .inr ⟨0, rfl, by omega, Lib.itoa_nonneg 0, .inr (hs 0 rfl)⟩
    · exact .inl ⟨by omega, (hs 0 rfl).2⟩
  · have := decFrom_lt _ _ _ hm
    exact .inr ⟨m, rfl, by omega, Lib.itoa_nonneg m, .inr (hs m rfl)⟩
  · rw [← e] at hm
    refine .inr ⟨m, rfl, num_bound hm h1, Lib.itoa_nonneg m, ?_⟩
    by_cases hd : Lib.decDigits m = s.data.toList
    · exact .inl ⟨hd, num_is h0 h1 hm hd⟩
    · exact .inr ⟨hd, num_ne hm hd⟩

/-- what start-up lays, as the library's functions ask it of the world -/
def TabP (w : World) : Prop := Lib.TabIs Tryd.prog w "internal/strconv.uint64pow10" .u64 Lib.pow10Tab
def Tabs (w : World) : Prop := TabP w ∧ ∃ tp p, w.var? Tryd.prog "strconv.ErrSyntax" = some #[.iface tp p]
theorem var_up {w w' : World} {n : String} {cs : Array Value} (h : w.var? Tryd.prog n = some cs) (hb : Up w w') : w'.var? Tryd.prog n = some cs := by
  unfold World.var? at h ⊢
  cases hg : Tryd.prog.globalNamed n with
  | none => simp [hg] at h
  | some g =>
    simp only [hg, Option.bind_some] at h ⊢
    have hlt : g < w.heap.size := by
      by_cases hl : g < w.heap.size
      · exact hl
      · rw [Array.getElem?_eq_none (by omega)] at h; cases h
    rw [hb.block g hlt]; exact h
theorem TabP.up {w w' : World} (h : TabP w) (hb : Up w w') : TabP w' := var_up h hb
theorem Tabs.up {w w' : World} (h : Tabs w) (hb : Up w w') : Tabs w' := by
  obtain ⟨h1, tp, p, h2⟩ := h
  exact ⟨var_up h1 hb, tp, p, var_up h2 hb⟩
theorem up_grow (w : World) (k : Nat) (os : Array Obj) : Up w (Go.Sort.grow (w.drewN k) os) := by
  refine ⟨rfl, rfl, rfl, by simp [Go.Sort.grow, World.drewN], fun b hb => ?_⟩
  show (w.heap ++ os)[b]? = _
  rw [Array.getElem?_append_left hb]
theorem cFormatInt {n : Int} {w : World} (hT : TabP w) (h0 : -9223372036854775808 ≤ n) (h1 : n ≤ 9223372036854775807) :
    Calls Tryd.prog 129 #[.int .i64 n] w fun e w' => e = .returned (.string ⟨(Lib.itoa n).toArray⟩) ∧ Up w w' := by
  go_enter Tryd.func129, Tryd.ntmps129
  go_wp2_with fail
  refine (Tryd.strconv_Itoa n h0 h1 _ hT).mono ?_
  rintro e w1 ⟨rfl, k, os, rfl⟩
  have hb := up_grow w k os
  generalize Go.Sort.grow (w.drewN k) os = w1 at *
  go_wp2
  go_ret
  exact ⟨rfl, hb⟩
theorem digs_snoc (u : Nat) (h : ¬ u < 10) : Lib.decDigits u = Lib.decDigits (u / 10) ++ [UInt8.ofNat (48 + u % 10)] := by conv => lhs; rw [Lib.decDigits]; rw [dif_neg h]
theorem dig_cons (m : Nat) (acc : List UInt8) : strOfNums [48 + (m : Int) % 10] ++ (⟨acc.toArray⟩ : ByteArray) = ⟨(UInt8.ofNat (48 + m % 10) :: acc).toArray⟩ := by
  have e : strOfNums [48 + (m : Int) % 10] = ⟨#[UInt8.ofNat (48 + m % 10)]⟩ := by
    unfold strOfNums
    have : (48 + (m : Int) % 10).toNat = 48 + m % 10 := by omega
    simp [this]
  rw [e]; rfl
set_option maxHeartbeats 400000 in
theorem formatS_pos (u : Nat) (w : World) (h1 : (u : Int) ≤ 9223372036854775807) :
    Calls Tryd.prog 111 #[.int .i64 u] w fun e w' => e = .returned (.string ⟨(Lib.decDigits u).toArray⟩) ∧ Up w w' := by
  have kc := @run_one_byte Tryd.prog 39 5 9 Tryd.underlying39 Tryd.underlying5 Tryd.underlying9
  have hne : ¬ (u : Int) = -9223372036854775808 := by omega
  have h0 : (0 : Int) ≤ u := by omega
  go_enter Tryd.func111, Tryd.ntmps111
  go_wp2
  go_loopw [0, 3] (fun i s wr => ∃ (m : Nat) (acc : List UInt8), m ≤ u ∧ i = .int .i64 m ∧ s = .string ⟨acc.toArray⟩ ∧ acc.length + m ≤ u ∧ (m = 0 → acc.length = 0) ∧ Hid (Lib.decDigits m ++ acc = Lib.decDigits u) ∧ Up w wr) (fun i _ _ => (intOf i).toNat)
  case atStart => exact ⟨u, [], by omega, rfl, rfl, by simp, fun _ => rfl, by simp [Hid], Up.rf w⟩
  case round =>
    obtain ⟨m, acc, hm, rfl, rfl, hl, hl0, HD, hb⟩ := hrel
    have hz1 : (strOfNums [48 + (m : Int) % 10]).size + (⟨acc.toArray⟩ : ByteArray).size ≤ 9223372036854775807 := by
      have e : (⟨acc.toArray⟩ : ByteArray).size = acc.length := by simp [ByteArray.size]
      rw [strOfNums_size, e]; simp only [List.length_singleton]
      by_cases hm0 : m = 0
      · have := hl0 hm0; omega
      · omega
    have i1 : (0 : Int) ≤ (m : Int) := by omega
    have HS := Lib.hid (dig_cons m acc)
    have HL := Lib.hid hl0
    have Hb := Lib.hid hb
    clear hl0 hb
    by_cases hz : (m : Int) / 10 = 0
    · go_wp2
      go_ret
      refine ⟨ret_str ?_, Hb.out.tr (Up.al1 _ _)⟩
      rw [HS.out]
      have := HD.out
      rw [Lib.decDigits, dif_pos (by omega)] at this
      rw [← this, show 48 + m % 10 = 48 + m by omega]; rfl
    · go_wp2
      exact ⟨⟨m/10, UInt8.ofNat (48 + m % 10) :: acc, by omega, by go_num, by rw [HS.out], by simp only [List.length_cons]; omega, by intro e; omega, by have := HD.out; rw [digs_snoc m (by omega)] at this; show _ = _; rw [← this]; simp, Hb.out.tr (Up.al1 _ _)⟩, by simp [intOf]; omega⟩
theorem cFormatIntS {n : Int} {w : World} (h0 : -9223372036854775808 ≤ n) (h1 : n ≤ 9223372036854775807) :
    Calls Tryd.prog 111 #[.int .i64 n] w fun e w' => e = .returned (.string ⟨(Lib.itoa n).toArray⟩) ∧ Up w w' := by
  by_cases hn : 0 ≤ n
  · obtain ⟨u, rfl⟩ : ∃ u : Nat, n = u := ⟨n.toNat, by omega⟩
    rw [Lib.itoa_nonneg]; exact formatS_pos u w h1
  · by_cases hmin : n = -9223372036854775808
    · subst hmin
      have HE : Hid ((⟨#[45, 57, 50, 50, 51, 51, 55, 50, 48, 51, 54, 56, 53, 52, 55, 55, 53, 56, 48, 56]⟩ : ByteArray) = ⟨(Lib.itoa (-9223372036854775808)).toArray⟩) := by
        show _ = _
        rw [show Lib.itoa (-9223372036854775808) = [45, 57, 50, 50, 51, 51, 55, 50, 48, 51, 54, 56, 53, 52, 55, 55, 53, 56, 48, 56] from by kernel_rfl]
      go_enter Tryd.func111, Tryd.ntmps111
      go_wp2
      go_ret
      exact ⟨ret_str HE.out, Up.rf w⟩
    · obtain ⟨u, rfl⟩ : ∃ u : Nat, n = -(u : Int) := ⟨(-n).toNat, by omega⟩
      have HE := Lib.hid (Lib.itoa_neg u (by omega))
      have hu : (u : Int) ≤ 9223372036854775807 := by omega
      have i1 : -(u : Int) < 0 := by omega
      have HC : Hid (∀ w, Calls Tryd.prog 111 #[.int .i64 u] w fun e w' => e = .returned (.string ⟨(Lib.decDigits u).toArray⟩) ∧ Up w w') := fun w => formatS_pos u w hu
      have HZ : (⟨#[45]⟩ : ByteArray).size + (⟨(Lib.decDigits u).toArray⟩ : ByteArray).size ≤ 9223372036854775807 := by
        have e : (⟨(Lib.decDigits u).toArray⟩ : ByteArray).size = (Lib.decDigits u).length := by simp [ByteArray.size]
        have := Lib.itoa_length_le u (by omega) hu
        rw [Lib.itoa_nonneg] at this
        rw [e]; show 1 + _ ≤ _; omega
      go_enter Tryd.func111, Tryd.ntmps111
      go_wp2_with fail
      refine (HC.out _).mono ?_
      rintro e w1 ⟨rfl, b1⟩
      go_wp2
      go_ret
      exact ⟨ret_str (by rw [HE.out]; rfl), b1⟩
set_option maxHeartbeats 1000000 in
theorem cParseInt {s : ByteArray} {w : World} (hT : Tabs w) (hs : s.size ≤ 1048576) :
    Calls Tryd.prog 96 #[.string s] w fun e w' => e = .returned (.tuple #[.int .i64 (numV s), .bool (numOk s)]) ∧ Up w w' := by
  have HT := Lib.hid hT
  clear hT
  by_cases h1 : (s.size : Int) < 1
  · have HN := Lib.hid (num_none (num_len (s := s) (by omega)))
    go_enter Tryd.func96, Tryd.ntmps96
    go_wp2
    go_ret2
    exact ⟨ret_ib HN.out.1 HN.out.2, Up.rf w⟩
  · by_cases h4 : (4 : Int) < s.size
    · have HN := Lib.hid (num_none (num_len (s := s) (by omega)))
      go_enter Tryd.func96, Tryd.ntmps96
      go_wp2
      go_ret2
      exact ⟨ret_ib HN.out.1 HN.out.2, Up.rf w⟩
    · cases ha : Lib.atoi s.data.toList with
      | none =>
        have HN := Lib.hid (num_none (atoi_none_num ha))
        have HA := Lib.hid ha
        clear ha
        obtain ⟨tp, pp, hv⟩ := HT.out.2
        go_enter Tryd.func96, Tryd.ntmps96
        go_wp2_with fail
        refine (Tryd.strconv_Atoi_err_var s (by omega) HA.out tp pp _ hv).mono ?_
        rintro e w1 ⟨N, rfl, -, -, b1⟩
        go_wp2
        go_ret2
        exact ⟨ret_ib HN.out.1 HN.out.2, b1⟩
      | some n =>
        have HA := Lib.hid ha
        have hc := atoi_num ha (by omega) (by omega)
        clear ha
        rcases hc with ⟨hneg, hn⟩ | ⟨m, rfl, hm, hi, hc⟩
        · have HN := Lib.hid (num_none hn)
          clear hn
          go_enter Tryd.func96, Tryd.ntmps96
          go_wp2_with fail
          refine (Tryd.strconv_Atoi s n (by omega) HA.out _).mono ?_
          rintro e w1 ⟨rfl, t, rfl⟩
          have b1 : Up w (Lib.bytesWorld w 5 t) := Lib.bytesWorld_below _ _ _
          generalize Lib.bytesWorld w 5 t = w1 at *
          go_wp2
          go_ret2
          exact ⟨ret_ib HN.out.1 HN.out.2, b1⟩
        · have HI := Lib.hid hi
          clear hi
          have i0 : (0 : Int) ≤ m := by omega
          have i1 : (m : Int) ≤ 9999 := by omega
          have hF : (Lib.decDigits m == s.toList) = false → numVal s = none := fun hq => by
            rcases hc with ⟨e, -⟩ | ⟨-, h⟩
            · exact absurd e (digs_ne hq)
            · exact h
          have hY : (Lib.decDigits m == s.toList) = true → numVal s = some m := fun hq => by
            rcases hc with ⟨-, h⟩ | ⟨e, -⟩
            · exact h
            · exact absurd (digs_eq.1 hq) e
          clear hc
          cases hq : (Lib.decDigits m == s.toList)
          · have HN := Lib.hid (num_none (hF hq))
            clear hF hY
            go_enter Tryd.func96, Tryd.ntmps96
            go_wp2_with fail
            refine (Tryd.strconv_Atoi s m (by omega) HA.out _).mono ?_
            rintro e w1 ⟨rfl, t, rfl⟩
            have b1 : Up w (Lib.bytesWorld w 5 t) := Lib.bytesWorld_below _ _ _
            generalize Lib.bytesWorld w 5 t = w1 at *
            have HT1 := Lib.hid (HT.out.up b1)
            go_wp2_with fail
            refine (cFormatInt HT1.out.1 (by omega) (by omega)).mono ?_
            rintro e w2 ⟨rfl, b2⟩
            rw [HI.out]
            have b12 := b1.tr b2
            clear b1 b2
            go_wp2
            go_ret2
            exact ⟨ret_ib HN.out.1 HN.out.2, b12⟩
          · have HN := Lib.hid (num_some (hY hq))
            clear hF hY
            go_enter Tryd.func96, Tryd.ntmps96
            go_wp2_with fail
            refine (Tryd.strconv_Atoi s m (by omega) HA.out _).mono ?_
            rintro e w1 ⟨rfl, t, rfl⟩
            have b1 : Up w (Lib.bytesWorld w 5 t) := Lib.bytesWorld_below _ _ _
            generalize Lib.bytesWorld w 5 t = w1 at *
            have HT1 := Lib.hid (HT.out.up b1)
            go_wp2_with fail
            refine (cFormatInt HT1.out.1 (by omega) (by omega)).mono ?_
            rintro e w2 ⟨rfl, b2⟩
            rw [HI.out]
            have b12 := b1.tr b2
            clear b1 b2
            go_wp2
            go_ret2
            exact ⟨ret_ib HN.out.1 HN.out.2, b12⟩
theorem digit_no {s : ByteArray} {k : Nat} (hk : k < s.size) (h : ¬ (48 ≤ s[k].toNat ∧ s[k].toNat ≤ 57)) : numVal s = none := by
  apply num_no
  cases hd : Lib.decFrom 0 s.data.toList with
  | none => rfl
  | some n =>
    obtain ⟨d, e⟩ := Lib.digit_of_decFrom _ _ _ hd k s[k] (by rw [Array.getElem?_toList, Array.getElem?_eq_getElem hk]; rfl)
    unfold Lib.digitVal at e; rw [if_neg h] at e; cases e
theorem digit_step {s : ByteArray} {k m : Nat} (hk : k < s.size) (h : 48 ≤ s[k].toNat ∧ s[k].toNat ≤ 57) (hm : Lib.decFrom 0 (s.data.toList.take k) = some m) : Lib.decFrom 0 (s.data.toList.take (k + 1)) = some (m * 10 + (s[k].toNat - 48)) :=
  Lib.decFrom_take _ k 0 m s[k] _ hm (by rw [Array.getElem?_toList, Array.getElem?_eq_getElem hk]; rfl) (by unfold Lib.digitVal; rw [if_pos h])
theorem take_bound {l : List UInt8} {k m : Nat} (hm : Lib.decFrom 0 (l.take k) = some m) (hk : k ≤ 4) : m ≤ 9999 := by
  have h2 := decFrom_lt _ _ _ hm
  have h3 : (l.take k).length ≤ 4 := by rw [List.length_take]; omega
  have h4 : 10 ^ (l.take k).length ≤ 10 ^ 4 := Nat.pow_le_pow_right (by omega) h3
  omega
set_option maxRecDepth 4000 in
set_option maxHeartbeats 1000000 in
theorem cParseIntS {s : ByteArray} {w : World} (hs : s.size ≤ 1048576) :
    Calls Tryd.prog 132 #[.string s] w fun e w' => e = .returned (.tuple #[.int .i64 (numV s), .bool (numOk s)]) ∧ Up w w' := by
  cases hin : inB s.size 1 4
  · have HN := Lib.hid (num_none (num_len (s := s) (by intro h; rw [show inB s.size 1 4 = true from by unfold inB; simp; omega] at hin; cases hin)))
    go_enter Tryd.func132, Tryd.ntmps132
    go_wp2_with (go_at_call 118; refine (in_any _ _ _ _).mono ?_; rintro e w' ⟨rfl, rfl⟩)
    go_ret2
    exact ⟨ret_ib HN.out.1 HN.out.2, Up.rf w⟩
  · have hsz : 1 ≤ s.size ∧ s.size ≤ 4 := by unfold inB at hin; simp at hin; omega
    obtain ⟨hs1, hs4⟩ := hsz
    have H1 := Lib.hid hs1
    clear hs1
    go_enter Tryd.func132, Tryd.ntmps132
    go_wp2_with (go_at_call 118; refine (in_any _ _ _ _).mono ?_; rintro e w' ⟨rfl, rfl⟩)
    clear hin
    go_loopw [4, 5] (fun n i wr => ∃ (k m : Nat), k ≤ s.size ∧ i = .int .i64 k ∧ n = .int .i64 m ∧ m ≤ 9999 ∧ Hid (Lib.decFrom 0 (s.data.toList.take k) = some m) ∧ wr = w) (fun _ i _ => s.size - (intOf i).toNat)
    case atStart => exact ⟨0, 0, Nat.zero_le _, rfl, rfl, by omega, rfl, rfl⟩
    case round =>
      obtain ⟨k, m, hk, rfl, rfl, hm, HM, rfl⟩ := hrel
      by_cases hlt : k < s.size
      · have i1 : (0 : Int) ≤ (k : Int) := by omega
        have i2 : (k : Int) < (s.size : Int) := by omega
        have hb := byte_lt s[k]
        by_cases hd : 48 ≤ s[k].toNat ∧ s[k].toNat ≤ 57
        · have HS := Lib.hid (digit_step hlt hd HM.out)
          have hd1 : ¬ (s[k].toNat : Int) < 48 := by omega
          have hd2 : ¬ (57 : Int) < (s[k].toNat : Int) := by omega
          have hd3 : (0 : Int) ≤ (s[k].toNat : Int) - 48 := by omega
          have HD := Lib.hid hd
          clear hd
          go_wp2
          exact ⟨⟨k+1, m * 10 + (s[k].toNat - 48), by omega, by go_num, by go_num, take_bound HS.out (by omega), HS.out, trivial⟩, by simp [intOf]; omega⟩
        · have HN := Lib.hid (num_none (digit_no hlt hd))
          have hd' : (s[k].toNat : Int) < 48 ∨ (57 : Int) < (s[k].toNat : Int) := by omega
          clear hd
          rcases hd' with hd | hd
          all_goals
            go_wp2
            go_ret2
            exact ⟨ret_ib HN.out.1 HN.out.2, Up.rf _⟩
      · have HM' : Hid (Lib.decFrom 0 s.data.toList = some m) := by
          have h := HM.out
          rw [List.take_of_length_le (by simp; omega)] at h
          exact h
        have i0 : (0 : Int) ≤ m := by omega
        cases hq : (Lib.decDigits m == s.toList)
        · have HN := Lib.hid (num_none (num_ne HM'.out (digs_ne hq)))
          go_wp2_with fail
          refine (formatS_pos m _ (by omega)).mono ?_
          rintro e w1 ⟨rfl, b1⟩
          go_wp2
          go_ret2
          exact ⟨ret_ib HN.out.1 HN.out.2, b1⟩
        · have HN := Lib.hid (num_some (num_is H1.out hs4 HM'.out (digs_eq.1 hq)))
          go_wp2_with fail
          refine (formatS_pos m _ (by omega)).mono ?_
          rintro e w1 ⟨rfl, b1⟩
          go_wp2
          go_ret2
          exact ⟨ret_ib HN.out.1 HN.out.2, b1⟩
theorem tabp_of {l : List (String × DataW Unit)} {W : World} (h : laidMetH Tryd.prog l W) (hp : (l.all fun x => x.2.handleName?.isNone) = true)
    (h1 : l.filter (fun x => x.1 == "internal/strconv.uint64pow10") = [("internal/strconv.uint64pow10", Lib.tabData .u64 Lib.pow10Tab)]) : TabP W := by
  rw [MakeChecks.laidMetH_plain _ _ _ hp] at h
  have f1 := h.filter (fun x => x.1 == "internal/strconv.uint64pow10")
  rw [h1] at f1
  exact Lib.tabIs_of_head (g := 3) (t := 158) (e := 138) (by kernel_rfl) (by kernel_rfl) Tryd.underlying158 Tryd.underlying138 (by kernel_rfl) (by kernel_rfl) f1
theorem tabs_of {l : List (String × DataW Unit)} {W : World} (h : laidMetH Tryd.prog l W) (hp : (l.all fun x => x.2.handleName?.isNone) = true)
    (h1 : l.filter (fun x => x.1 == "internal/strconv.uint64pow10") = [("internal/strconv.uint64pow10", Lib.tabData .u64 Lib.pow10Tab)])
    (h2 : l.filter (fun x => x.1 == "strconv.ErrSyntax") = [("strconv.ErrSyntax", Rows.laid_strconv_ErrSyntax)]) : Tabs W := by
  rw [MakeChecks.laidMetH_plain _ _ _ hp] at h
  have f1 := h.filter (fun x => x.1 == "internal/strconv.uint64pow10")
  have f2 := h.filter (fun x => x.1 == "strconv.ErrSyntax")
  rw [h1] at f1
  rw [h2] at f2
  have star : "*" ++ "errors.errorString" = "*errors.errorString" := by decide
  have row : ∀ u, Tryd.prog.typeName? 3 u = some "*errors.errorString" → u = 148 := fun u h =>
    typeName_ptr_named (nm := "errors.errorString") (by rw [star]; kernel_rfl) (by kernel_rfl) (by decide) u (by rw [star]; exact h)
  refine ⟨Lib.tabIs_of_head (g := 3) (t := 158) (e := 138) (by kernel_rfl) (by kernel_rfl) Tryd.underlying158 Tryd.underlying138 (by kernel_rfl) (by kernel_rfl) f1, ?_⟩
  obtain ⟨a0, s0, hv0, -⟩ := laid_sentinel f2 (g := 1) (ti := 123) (by kernel_rfl) (by kernel_rfl) Tryd.underlying123 row Tryd.underlying148 Tryd.underlying150 rfl rfl Tryd.underlying9 (by kernel_rfl) (by kernel_rfl)
  exact ⟨_, _, hv0⟩
end Go.Proofs.YtpjklnngigkkiaaDoor
