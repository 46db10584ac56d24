/- ParseCond, the program's, as a plain function of a short text. -/
import Derived.Deep.DeepCutAuto
import Derived.Test.YtjaifoeagocapaaDoorParF
import Derived.Test.YtjaifoeagocapaaDoorFormC
import Derived.Test.YtjaifoeagocapaaDoorPlK
import Derived.Test.YtjaifoeagocapaaDoorDr7
namespace Go.Proofs.YtjaifoeagocapaaDoor
open Go.RowKit
attribute [local go_sem ↓] Go.wp_at_zero Go.wp_at_succ
set_option linter.unusedVariables false
theorem oF_parse9 {ok : FactV → Bool} (s : ByteArray) (hs : s.size ≤ 1048576) : fsz (oF (parseB ok s)) ≤ 1048576 := by
  unfold parseB
  cases hp : partV s with
  | none => simp [oF, fV0, fsz, tsz, tsum, ByteArray.size]
  | some p =>
    obtain ⟨r, a⟩ := p
    have h1 := fsz_fmt (f := ⟨r, a⟩) (by rw [partV_fmt' hp]; exact hs)
    by_cases ho : ok ⟨r, a⟩ = true
    · simp only [ho, if_true, oF, Option.getD_some]; omega
    · simp only [ho]; simp [oF, fV0, fsz, tsz, tsum, ByteArray.size]
def sgL (k : Nat) : List UInt8 := if k = 0 then [32, 61, 32] else if k = 1 then [32, 33, 61, 32] else [32, 60, 32]
def tstK (s : ByteArray) : Nat → CondV
  | 0 => zC
  | k + 1 => cutC s (3 + (k : Int)) (sgL k) (tstK s k)
theorem tstK_3 (s : ByteArray) : tstK s 3 = cutC s 5 [32, 60, 32] (cutC s 4 [32, 33, 61, 32] (cutC s 3 [32, 61, 32] zC)) := rfl
theorem tstK_f {s : ByteArray} {k : Nat} (h : (Lib.cut s.data.toList (sgL k)).2.2 = false) : tstK s (k + 1) = tstK s k := by
  show cutC _ _ _ _ = _; unfold cutC; rw [if_neg (by rw [h]; simp)]
theorem tstK_t {s : ByteArray} {k : Nat} (h : (Lib.cut s.data.toList (sgL k)).2.2 = true) : tstK s (k + 1) = ⟨3 + (k : Int), fV0, ⟨(Lib.cut s.data.toList (sgL k)).1.toArray⟩, ⟨(Lib.cut s.data.toList (sgL k)).2.1.toArray⟩⟩ := by
  show cutC _ _ _ _ = _; unfold cutC; rw [if_pos h]
theorem tstK_sz (s : ByteArray) : ∀ k, (tstK s k).pat = fV0 ∧ (tstK s k).left.size ≤ s.size ∧ (tstK s k).right.size ≤ s.size
  | 0 => ⟨rfl, Nat.zero_le _, Nat.zero_le _⟩
  | k + 1 => by
    cases h : (Lib.cut s.data.toList (sgL k)).2.2 with
    | false => rw [tstK_f h]; exact tstK_sz s k
    | true =>
      rw [tstK_t h]
      have hl := cut_len s.data.toList (sgL k)
      have e : s.data.toList.length = s.size := by simp
      refine ⟨rfl, ?_, ?_⟩
      · simp only [ByteArray.size, List.size_toArray] at *; omega
      · simp only [ByteArray.size, List.size_toArray] at *; omega
theorem trim_len (s p : List UInt8) : (Lib.trimPrefix s p).length ≤ s.length := by
  unfold Lib.trimPrefix; split <;> simp
theorem candC_csz (s : ByteArray) (hs : s.size ≤ 1000) : csz (candC s) ≤ 1048576 := by
  unfold candC
  cases hp : parseB isPatB s with
  | some p =>
    have := oF_parse9 (ok := isPatB) s (by omega)
    rw [hp] at this
    have h2 : fsz p ≤ 1048576 := this
    show fsz p + 0 + 0 ≤ 1048576
    omega
  | none =>
    simp only
    split
    · have := oF_parse9 (ok := isPatB) ⟨(Lib.trimPrefix s.data.toList [110, 111, 116, 32]).toArray⟩ (by
        have := trim_len s.data.toList [110, 111, 116, 32]
        have e : s.data.toList.length = s.size := by simp
        simp only [ByteArray.size, List.size_toArray] at *; omega)
      show fsz _ + 0 + 0 ≤ 1048576
      omega
    · obtain ⟨h1, h2, h3⟩ := tstK_sz s 3
      rw [← tstK_3]
      unfold csz
      rw [h1]
      have : fsz fV0 = 0 := rfl
      omega
theorem parseC_of {s : ByteArray} {c : CondV} (h : candC s = c) : parseC s = if isCondB c && decide (formC c = s) then some c else none := by unfold parseC; rw [h]
theorem AC.args {w : World} {lo hi xc : Nat} {xa : Option Addr} {c : CondV} (h : AC w lo hi (.agg #[.int .i64 c.kind, .string c.pat.rel, .slice xa c.pat.args.length xc, .string c.left, .string c.right]) c) : TX w lo hi (.slice xa c.pat.args.length xc) c.pat.args := by
  obtain ⟨_, e9, av, e8, htx⟩ := h
  subst e8
  injection e9 with e9
  have e7 : Value.slice xa c.pat.args.length xc = av := by have := congrArg (fun q => q[2]?) e9; simpa using this
  rw [e7]; exact htx
set_option maxHeartbeats 8000000 in
set_option maxRecDepth 100000 in
theorem cParseC {s : ByteArray} {w : World} (hT : TsT w) (hM : MxL w) (hs : s.size ≤ 1000) :
    Calls Tryd.prog 8 #[.string s] w fun e w' => ∃ v', e = .returned (.tuple #[v', .bool (parseC s).isSome]) ∧ Ob AC w' w.heap.size w'.heap.size v' (oC (parseC s)) ∧ Up w w' := by
  have hb0 : Up w ((w.alloc (.cells #[.int .i64 0, .string ⟨#[]⟩, .slice none 0 0, .string ⟨#[]⟩, .string ⟨#[]⟩] 28)).alloc (.cells #[.int .i64 0, .string ⟨#[]⟩, .slice none 0 0, .string ⟨#[]⟩, .string ⟨#[]⟩] 28)) := (Up.al1 _ _).al _
  have KA := Lib.hid (show Blk ((w.alloc (.cells #[.int .i64 0, .string ⟨#[]⟩, .slice none 0 0, .string ⟨#[]⟩, .string ⟨#[]⟩] 28)).alloc (.cells #[.int .i64 0, .string ⟨#[]⟩, .slice none 0 0, .string ⟨#[]⟩, .string ⟨#[]⟩] 28)) w.heap.size 28 #[.int .i64 0, .string ⟨#[]⟩, .slice none 0 0, .string ⟨#[]⟩, .string ⟨#[]⟩] from (Blk.new w 28 #[.int .i64 0, .string ⟨#[]⟩, .slice none 0 0, .string ⟨#[]⟩, .string ⟨#[]⟩]).alloc _)
  have KB := Lib.hid (show Blk ((w.alloc (.cells #[.int .i64 0, .string ⟨#[]⟩, .slice none 0 0, .string ⟨#[]⟩, .string ⟨#[]⟩] 28)).alloc (.cells #[.int .i64 0, .string ⟨#[]⟩, .slice none 0 0, .string ⟨#[]⟩, .string ⟨#[]⟩] 28)) (w.heap.size + 1) 28 #[.int .i64 0, .string ⟨#[]⟩, .slice none 0 0, .string ⟨#[]⟩, .string ⟨#[]⟩] from by have := Blk.new (w.alloc (.cells #[.int .i64 0, .string ⟨#[]⟩, .slice none 0 0, .string ⟨#[]⟩, .string ⟨#[]⟩] 28)) 28 #[.int .i64 0, .string ⟨#[]⟩, .slice none 0 0, .string ⟨#[]⟩, .string ⟨#[]⟩]; simpa using this)
  have hws : ((w.alloc (.cells #[.int .i64 0, .string ⟨#[]⟩, .slice none 0 0, .string ⟨#[]⟩, .string ⟨#[]⟩] 28)).alloc (.cells #[.int .i64 0, .string ⟨#[]⟩, .slice none 0 0, .string ⟨#[]⟩, .string ⟨#[]⟩] 28)).heap.size = w.heap.size + 2 := by simp
  have HT := Lib.hid (hT.up hb0)
  have HM := Lib.hid (hM.up hb0)
  have HB := Lib.hid hb0
  have hcz := candC_csz s hs
  have hs1 : s.size ≤ 1048576 := by omega
  have hT0 := Lib.hid hT
  have hM0 := Lib.hid hM
  clear hT hM hb0
  have xi0 : ∀ w : World, (Instr.index 52 (.agg #[.string sg3, .string sg4, .string sg5]) (.int .i64 0)).run Tryd.prog w = .ok (.string sg3) w := fun _ => by kernel_rfl
  have xi1 : ∀ w : World, (Instr.index 52 (.agg #[.string sg3, .string sg4, .string sg5]) (.int .i64 1)).run Tryd.prog w = .ok (.string sg4) w := fun _ => by kernel_rfl
  have xi2 : ∀ w : World, (Instr.index 52 (.agg #[.string sg3, .string sg4, .string sg5]) (.int .i64 2)).run Tryd.prog w = .ok (.string sg5) w := fun _ => by kernel_rfl
  go_enter Tryd.func8, Tryd.ntmps8
  go_wp2_with fail
  generalize ((w.alloc (.cells #[.int .i64 0, .string ⟨#[]⟩, .slice none 0 0, .string ⟨#[]⟩, .string ⟨#[]⟩] 28)).alloc (.cells #[.int .i64 0, .string ⟨#[]⟩, .slice none 0 0, .string ⟨#[]⟩, .string ⟨#[]⟩] 28)) = W at *
  refine (cParseP HM.out hs1).mono ?_
  rintro e w1 ⟨v1, rfl, ho, b1⟩
  obtain ⟨av, rfl, hto⟩ := ho.1
  obtain ⟨oa, oc, rfl⟩ := hto.tx.form
  generalize hp : parseB isPatB s = o at *
  have HP := Lib.hid hp
  have hal := b1.tr (Up.al1 w1 (.cells #[.string (oF o).rel, .slice oa (oF o).args.length oc] 26))
  have HX1 := Lib.hid ((show Ob TX w1 W.heap.size w1.heap.size (.slice oa (oF o).args.length oc) (oF o).args from ⟨hto.tx, Nat.le_refl _⟩).up (Up.al1 w1 (.cells #[.string (oF o).rel, .slice oa (oF o).args.length oc] 26)))
  have KC := Lib.hid (Blk.new w1 26 #[.string (oF o).rel, .slice oa (oF o).args.length oc])
  have KA1 := Lib.hid (KA.out.up hal)
  have KB1 := Lib.hid (KB.out.up hal)
  have HT1 := Lib.hid (HT.out.up hal)
  have HM1 := Lib.hid (HM.out.up hal)
  have HU1 := Lib.hid (HB.out.tr hal)
  have hsz1 := b1.size
  clear hp ho hto b1 hal KA KB HT HM HB
  go_upto_if 21 with fail
  generalize hpc : w1.heap.size = pc at *
  generalize (w1.alloc (.cells #[.string (oF o).rel, .slice oa (oF o).args.length oc] 26)) = W1 at *
  go_cut [3] from 5 to 66 (fun s3 wy => ∃ (wx : World) (xa : Option Addr) (xc : Nat), wx = wy ∧ s3 = .bool false ∧ Hid (Blk wx w.heap.size 28 #[.int .i64 0, .string ⟨#[]⟩, .slice none 0 0, .string ⟨#[]⟩, .string ⟨#[]⟩]) ∧ Hid (Blk wx (w.heap.size + 1) 28 #[.int .i64 (candC s).kind, .string (candC s).pat.rel, .slice xa (candC s).pat.args.length xc, .string (candC s).left, .string (candC s).right]) ∧ Hid (Ob TX wx (w.heap.size + 2) wx.heap.size (.slice xa (candC s).pat.args.length xc) (candC s).pat.args) ∧ Hid (Up w wx))
  case first =>
    cases o with
    | some p =>
      have HC : Hid (candC s = ⟨1, p, ⟨#[]⟩, ⟨#[]⟩⟩) := by show _ = _; unfold candC; rw [HP.out]
      have k0 : W1.cell? ⟨pc, 0, none⟩ = some (.string (oF (some p)).rel) := KC.out.cell 0
      have k1 : W1.cell? ⟨pc, 1, none⟩ = some (.slice oa (oF (some p)).args.length oc) := KC.out.cell 1
      obtain ⟨r0, r1, r2, r3, r4⟩ := KB1.out.five
      have q0 := KB1.out.frozen 0
      have q1 := KB1.out.frozen 1
      have q2 := KB1.out.frozen 2
      have q3 := KB1.out.frozen 3
      have q4 := KB1.out.frozen 4
      go_wp2_with fail
      clear k0 k1 r0 r1 r2 r3 r4 q0 q1 q2 q3 q4
      go_meet
      case rel =>
        refine ⟨_, oa, oc, rfl, rfl, ?_, ?_, ?_, ?_⟩
        · exact (((((KA1.out.far (p := ⟨(w.heap.size + 1), 0, none⟩) (by show w.heap.size ≠ w.heap.size + 1; omega) _).far (p := ⟨(w.heap.size + 1), 1, none⟩) (by show w.heap.size ≠ w.heap.size + 1; omega) _).far (p := ⟨(w.heap.size + 1), 2, none⟩) (by show w.heap.size ≠ w.heap.size + 1; omega) _).far (p := ⟨(w.heap.size + 1), 3, none⟩) (by show w.heap.size ≠ w.heap.size + 1; omega) _).far (p := ⟨(w.heap.size + 1), 4, none⟩) (by show w.heap.size ≠ w.heap.size + 1; omega) _)
        · show Blk _ _ _ _; rw [HC.out]; exact Blk.st5 KB1.out (.int .i64 1) (.string p.rel) (.slice oa p.args.length oc) (.string ⟨#[]⟩) (.string ⟨#[]⟩)
        · show Ob TX _ _ _ _ _; rw [HC.out]; exact ⟨((show TX W1 W.heap.size pc (.slice oa p.args.length oc) p.args from HX1.out.1).mono (lo' := w.heap.size + 2) (hi' := W1.heap.size) (by omega) (by have := HX1.out.2; omega)).keep (Stays.st5 W1 (p := (w.heap.size + 1)) (.inl (by omega)) (.int .i64 1) (.string p.rel) (.slice oa p.args.length oc) (.string ⟨#[]⟩) (.string ⟨#[]⟩)) |>.mono (Nat.le_refl _) (by rw [size_st5]; omega), Nat.le_refl _⟩
        · exact Up.st5 HU1.out (Nat.le_succ _) (.int .i64 1) (.string p.rel) (.slice oa p.args.length oc) (.string ⟨#[]⟩) (.string ⟨#[]⟩)
    | none =>
      have hlen : s.data.toList.length = s.size := by simp
      have htl := trim_len s.data.toList [110, 111, 116, 32]
      go_wp2_with fail
      refine (Tryd.strings_CutPrefix s ⟨#[110, 111, 116, 32]⟩ _).mono ?_
      rintro e w2 ⟨rfl, hw9⟩
      rw [hw9]
      clear hw9 w2
      rw [show (⟨#[110, 111, 116, 32]⟩ : ByteArray).data.toList = [110, 111, 116, 32] from rfl]
      cases hH : Lib.hasPrefix s.data.toList [110, 111, 116, 32]
      · have HC : Hid (candC s = tstK s 3) := by show _ = _; unfold candC; rw [HP.out, tstK_3]; simp [hH]
        clear hH htl
        obtain ⟨t0, t1, t2⟩ := HT1.out
        go_wp2_with fail
        clear t0 t1 t2
        go_loopw [38] (fun i wz => ∃ (wr : World) (k : Nat), wr = wz ∧ k ≤ 3 ∧ i = .int .i64 k ∧ Hid (Blk wr w.heap.size 28 #[.int .i64 0, .string ⟨#[]⟩, .slice none 0 0, .string ⟨#[]⟩, .string ⟨#[]⟩]) ∧ Hid (Blk wr (w.heap.size + 1) 28 #[.int .i64 (tstK s k).kind, .string ⟨#[]⟩, .slice none 0 0, .string (tstK s k).left, .string (tstK s k).right]) ∧ Hid (Up w wr)) (fun i _ => 3 - (intOf i).toNat)
        case atStart => exact ⟨_, 0, rfl, by omega, rfl, KA1.out, KB1.out, HU1.out⟩
        case round =>
          obtain ⟨wr, k, rfl, hk, rfl, KAr, KBr, HUr⟩ := hrel
          obtain ⟨m, hm⟩ := hM0.out.up HUr.out
          have hk4 : k = 0 ∨ k = 1 ∨ k = 2 ∨ k = 3 := by omega
          rcases hk4 with rfl | rfl | rfl | rfl
          · have HR : Hid (wr = wr) := rfl
            go_wp2_with fail
            refine (Tryd.strings_Cut s sg3 m _ (by omega) hm).mono ?_
            rintro e w3 ⟨rfl, n, rfl⟩
            rw [show (sg3 : ByteArray).data.toList = sgL 0 from rfl]
            have b3 : Up wr (wr.drewN n) := below_drewN (Up.rf wr) n
            have KA3 := Lib.hid (KAr.out.up b3)
            have KB3 := Lib.hid (KBr.out.up b3)
            have HU3 := Lib.hid (HUr.out.tr b3)
            generalize wr.drewN n = w3 at *
            clear b3 hm KAr KBr HUr
            cases hf : (Lib.cut s.data.toList (sgL 0)).2.2
            · have HE := Lib.hid (tstK_f hf)
              have HKB : Hid (Blk w3 (w.heap.size + 1) 28 #[.int .i64 (tstK s (0 + 1)).kind, .string ⟨#[]⟩, .slice none 0 0, .string (tstK s (0 + 1)).left, .string (tstK s (0 + 1)).right]) := by show Blk _ _ _ _; rw [HE.out]; exact KB3.out
              clear hf
              go_wp2
              exact ⟨⟨_, 1, rfl, by omega, by go_num, KA3.out, HKB.out, HU3.out⟩, by simp [intOf]⟩
            · have HE := Lib.hid (tstK_t hf)
              clear hf
              generalize (Lib.cut s.data.toList (sgL 0)).1 = cl at *
              generalize (Lib.cut s.data.toList (sgL 0)).2.1 = cr at *
              obtain ⟨r0, r1, r2, r3, r4⟩ := KB3.out.five
              have q0 := KB3.out.frozen 0
              have q1 := KB3.out.frozen 1
              have q2 := KB3.out.frozen 2
              have q3 := KB3.out.frozen 3
              have q4 := KB3.out.frozen 4
              go_wp2
              clear r0 r1 r2 r3 r4 q0 q1 q2 q3 q4
              refine ⟨⟨_, 1, rfl, by omega, by go_num, ?_, ?_, ?_⟩, by simp [intOf]⟩
              · exact (((((KA3.out.far (p := ⟨(w.heap.size + 1), 0, none⟩) (by show w.heap.size ≠ w.heap.size + 1; omega) _).far (p := ⟨(w.heap.size + 1), 1, none⟩) (by show w.heap.size ≠ w.heap.size + 1; omega) _).far (p := ⟨(w.heap.size + 1), 2, none⟩) (by show w.heap.size ≠ w.heap.size + 1; omega) _).far (p := ⟨(w.heap.size + 1), 3, none⟩) (by show w.heap.size ≠ w.heap.size + 1; omega) _).far (p := ⟨(w.heap.size + 1), 4, none⟩) (by show w.heap.size ≠ w.heap.size + 1; omega) _)
              · show Blk _ _ _ _; rw [HE.out]; exact Blk.st5 KB3.out (.int .i64 3) (.string ⟨#[]⟩) (.slice none 0 0) (.string ⟨cl.toArray⟩) (.string ⟨cr.toArray⟩)
              · exact Up.st5 HU3.out (Nat.le_succ _) (.int .i64 3) (.string ⟨#[]⟩) (.slice none 0 0) (.string ⟨cl.toArray⟩) (.string ⟨cr.toArray⟩)
          · have HR : Hid (wr = wr) := rfl
            go_wp2_with fail
            refine (Tryd.strings_Cut s sg4 m _ (by omega) hm).mono ?_
            rintro e w3 ⟨rfl, n, rfl⟩
            rw [show (sg4 : ByteArray).data.toList = sgL 1 from rfl]
            have b3 : Up wr (wr.drewN n) := below_drewN (Up.rf wr) n
            have KA3 := Lib.hid (KAr.out.up b3)
            have KB3 := Lib.hid (KBr.out.up b3)
            have HU3 := Lib.hid (HUr.out.tr b3)
            generalize wr.drewN n = w3 at *
            clear b3 hm KAr KBr HUr
            cases hf : (Lib.cut s.data.toList (sgL 1)).2.2
            · have HE := Lib.hid (tstK_f hf)
              have HKB : Hid (Blk w3 (w.heap.size + 1) 28 #[.int .i64 (tstK s (1 + 1)).kind, .string ⟨#[]⟩, .slice none 0 0, .string (tstK s (1 + 1)).left, .string (tstK s (1 + 1)).right]) := by show Blk _ _ _ _; rw [HE.out]; exact KB3.out
              clear hf
              go_wp2
              exact ⟨⟨_, 2, rfl, by omega, by go_num, KA3.out, HKB.out, HU3.out⟩, by simp [intOf]⟩
            · have HE := Lib.hid (tstK_t hf)
              clear hf
              generalize (Lib.cut s.data.toList (sgL 1)).1 = cl at *
              generalize (Lib.cut s.data.toList (sgL 1)).2.1 = cr at *
              obtain ⟨r0, r1, r2, r3, r4⟩ := KB3.out.five
              have q0 := KB3.out.frozen 0
              have q1 := KB3.out.frozen 1
              have q2 := KB3.out.frozen 2
              have q3 := KB3.out.frozen 3
              have q4 := KB3.out.frozen 4
              go_wp2
              clear r0 r1 r2 r3 r4 q0 q1 q2 q3 q4
              refine ⟨⟨_, 2, rfl, by omega, by go_num, ?_, ?_, ?_⟩, by simp [intOf]⟩
              · exact (((((KA3.out.far (p := ⟨(w.heap.size + 1), 0, none⟩) (by show w.heap.size ≠ w.heap.size + 1; omega) _).far (p := ⟨(w.heap.size + 1), 1, none⟩) (by show w.heap.size ≠ w.heap.size + 1; omega) _).far (p := ⟨(w.heap.size + 1), 2, none⟩) (by show w.heap.size ≠ w.heap.size + 1; omega) _).far (p := ⟨(w.heap.size + 1), 3, none⟩) (by show w.heap.size ≠ w.heap.size + 1; omega) _).far (p := ⟨(w.heap.size + 1), 4, none⟩) (by show w.heap.size ≠ w.heap.size + 1; omega) _)
              · show Blk _ _ _ _; rw [HE.out]; exact Blk.st5 KB3.out (.int .i64 4) (.string ⟨#[]⟩) (.slice none 0 0) (.string ⟨cl.toArray⟩) (.string ⟨cr.toArray⟩)
              · exact Up.st5 HU3.out (Nat.le_succ _) (.int .i64 4) (.string ⟨#[]⟩) (.slice none 0 0) (.string ⟨cl.toArray⟩) (.string ⟨cr.toArray⟩)
          · have HR : Hid (wr = wr) := rfl
            go_wp2_with fail
            refine (Tryd.strings_Cut s sg5 m _ (by omega) hm).mono ?_
            rintro e w3 ⟨rfl, n, rfl⟩
            rw [show (sg5 : ByteArray).data.toList = sgL 2 from rfl]
            have b3 : Up wr (wr.drewN n) := below_drewN (Up.rf wr) n
            have KA3 := Lib.hid (KAr.out.up b3)
            have KB3 := Lib.hid (KBr.out.up b3)
            have HU3 := Lib.hid (HUr.out.tr b3)
            generalize wr.drewN n = w3 at *
            clear b3 hm KAr KBr HUr
            cases hf : (Lib.cut s.data.toList (sgL 2)).2.2
            · have HE := Lib.hid (tstK_f hf)
              have HKB : Hid (Blk w3 (w.heap.size + 1) 28 #[.int .i64 (tstK s (2 + 1)).kind, .string ⟨#[]⟩, .slice none 0 0, .string (tstK s (2 + 1)).left, .string (tstK s (2 + 1)).right]) := by show Blk _ _ _ _; rw [HE.out]; exact KB3.out
              clear hf
              go_wp2
              exact ⟨⟨_, 3, rfl, by omega, by go_num, KA3.out, HKB.out, HU3.out⟩, by simp [intOf]⟩
            · have HE := Lib.hid (tstK_t hf)
              clear hf
              generalize (Lib.cut s.data.toList (sgL 2)).1 = cl at *
              generalize (Lib.cut s.data.toList (sgL 2)).2.1 = cr at *
              obtain ⟨r0, r1, r2, r3, r4⟩ := KB3.out.five
              have q0 := KB3.out.frozen 0
              have q1 := KB3.out.frozen 1
              have q2 := KB3.out.frozen 2
              have q3 := KB3.out.frozen 3
              have q4 := KB3.out.frozen 4
              go_wp2
              clear r0 r1 r2 r3 r4 q0 q1 q2 q3 q4
              refine ⟨⟨_, 3, rfl, by omega, by go_num, ?_, ?_, ?_⟩, by simp [intOf]⟩
              · exact (((((KA3.out.far (p := ⟨(w.heap.size + 1), 0, none⟩) (by show w.heap.size ≠ w.heap.size + 1; omega) _).far (p := ⟨(w.heap.size + 1), 1, none⟩) (by show w.heap.size ≠ w.heap.size + 1; omega) _).far (p := ⟨(w.heap.size + 1), 2, none⟩) (by show w.heap.size ≠ w.heap.size + 1; omega) _).far (p := ⟨(w.heap.size + 1), 3, none⟩) (by show w.heap.size ≠ w.heap.size + 1; omega) _).far (p := ⟨(w.heap.size + 1), 4, none⟩) (by show w.heap.size ≠ w.heap.size + 1; omega) _)
              · show Blk _ _ _ _; rw [HE.out]; exact Blk.st5 KB3.out (.int .i64 5) (.string ⟨#[]⟩) (.slice none 0 0) (.string ⟨cl.toArray⟩) (.string ⟨cr.toArray⟩)
              · exact Up.st5 HU3.out (Nat.le_succ _) (.int .i64 5) (.string ⟨#[]⟩) (.slice none 0 0) (.string ⟨cl.toArray⟩) (.string ⟨cr.toArray⟩)
          · have HX9 : Hid (TX wr (w.heap.size + 2) wr.heap.size (.slice none 0 0) []) := (TO.nil_ 9 _ _ _).tx
            go_wp2_with fail
            go_meet
            case rel =>
              refine ⟨_, none, 0, rfl, rfl, KAr.out, ?_, ?_, HUr.out⟩
              · show Blk _ _ _ _; rw [HC.out, (tstK_sz s 3).1]; exact KBr.out
              · show Ob TX _ _ _ _ _; rw [HC.out, (tstK_sz s 3).1]; exact ⟨HX9.out, Nat.le_refl _⟩
      · have HC : Hid (candC s = ⟨2, oF (parseB isPatB ⟨(Lib.trimPrefix s.data.toList [110, 111, 116, 32]).toArray⟩), ⟨#[]⟩, ⟨#[]⟩⟩) := by show _ = _; unfold candC; rw [HP.out]; simp [hH]
        have hrz : (⟨(Lib.trimPrefix s.data.toList [110, 111, 116, 32]).toArray⟩ : ByteArray).size ≤ 1048576 := by simp only [ByteArray.size, List.size_toArray] at *; omega
        clear hH htl
        generalize (⟨(Lib.trimPrefix s.data.toList [110, 111, 116, 32]).toArray⟩ : ByteArray) = r at *
        go_wp2_with fail
        refine (cParseP HM1.out hrz).mono ?_
        rintro e w3 ⟨v3, rfl, ho, b3⟩
        obtain ⟨av3, rfl, hto⟩ := ho.1
        obtain ⟨na, nc, rfl⟩ := hto.tx.form
        generalize hy : oF (parseB isPatB r) = y at *
        generalize (parseB isPatB r).isSome = bb at *
        have hal := b3.tr (Up.al1 w3 (.cells #[.string y.rel, .slice na y.args.length nc] 26))
        have KA3 := KA1.out.up hal
        have KB3 := KB1.out.up hal
        have HU3 := Lib.hid (HU1.out.tr hal)
        have hs3 := b3.size
        have hw1 : W1.heap.size ≤ w3.heap.size := hs3
        have HX3 := Lib.hid ((show Ob TX w3 W1.heap.size w3.heap.size (.slice na y.args.length nc) y.args from ⟨hto.tx, Nat.le_refl _⟩).up (Up.al1 w3 (.cells #[.string y.rel, .slice na y.args.length nc] 26)))
        have hW1 : w.heap.size + 2 ≤ W1.heap.size := by have := HX1.out.2; omega
        obtain ⟨r0, r1, r2, r3, r4⟩ := KB3.five
        have q0 := KB3.frozen 0
        have q1 := KB3.frozen 1
        have q2 := KB3.frozen 2
        have q3 := KB3.frozen 3
        have q4 := KB3.frozen 4
        clear ho hto b3 hal hy
        go_wp2_with fail
        clear r0 r1 r2 r3 r4 q0 q1 q2 q3 q4
        go_meet
        case rel =>
          refine ⟨_, na, nc, rfl, rfl, ?_, ?_, ?_, ?_⟩
          · exact (((((KA3.far (p := ⟨(w.heap.size + 1), 0, none⟩) (by show w.heap.size ≠ w.heap.size + 1; omega) _).far (p := ⟨(w.heap.size + 1), 1, none⟩) (by show w.heap.size ≠ w.heap.size + 1; omega) _).far (p := ⟨(w.heap.size + 1), 2, none⟩) (by show w.heap.size ≠ w.heap.size + 1; omega) _).far (p := ⟨(w.heap.size + 1), 3, none⟩) (by show w.heap.size ≠ w.heap.size + 1; omega) _).far (p := ⟨(w.heap.size + 1), 4, none⟩) (by show w.heap.size ≠ w.heap.size + 1; omega) _)
          · show Blk _ _ _ _; rw [HC.out]; exact Blk.st5 KB3 (.int .i64 2) (.string y.rel) (.slice na y.args.length nc) (.string ⟨#[]⟩) (.string ⟨#[]⟩)
          · show Ob TX _ _ _ _ _; rw [HC.out]; exact ⟨(HX3.out.1.mono (lo' := w.heap.size + 2) (hi' := (w3.alloc (.cells #[.string y.rel, .slice na y.args.length nc] 26)).heap.size) (by omega) (Up.al1 _ _).size).keep (Stays.st5 (w3.alloc (.cells #[.string y.rel, .slice na y.args.length nc] 26)) (p := (w.heap.size + 1)) (.inl (by omega)) (.int .i64 2) (.string y.rel) (.slice na y.args.length nc) (.string ⟨#[]⟩) (.string ⟨#[]⟩)) |>.mono (Nat.le_refl _) (by rw [size_st5]; omega), Nat.le_refl _⟩
          · exact Up.st5 HU3.out (Nat.le_succ _) (.int .i64 2) (.string y.rel) (.slice na y.args.length nc) (.string ⟨#[]⟩) (.string ⟨#[]⟩)
  case rest =>
    obtain ⟨wx, xa, xc, rfl, rfl, KAx, KBx, HXx, HUx⟩ := hcut
    clear KC KA1 KB1 HX1 HM1 HP
    generalize hc : candC s = c at *
    have HPC := Lib.hid (parseC_of hc)
    clear hc
    have HAx : Hid (Ob AC wx (w.heap.size + 2) wx.heap.size (.agg #[.int .i64 c.kind, .string c.pat.rel, .slice xa c.pat.args.length xc, .string c.left, .string c.right]) c) := ⟨⟨[_, _, _, _, _], rfl, _, rfl, HXx.out.1⟩, Nat.le_refl _⟩
    obtain ⟨r0, r1, r2, r3, r4⟩ := KBx.out.five
    go_wp2_with fail
    refine (cIsCond HAx.out hcz).mono ?_
    rintro e w2 ⟨rfl, b2⟩
    have KA2 := Lib.hid (KAx.out.up b2)
    have KB2 := Lib.hid (KBx.out.up b2)
    have HA2 := Lib.hid (HAx.out.up b2)
    have HU2 := Lib.hid (HUx.out.tr b2)
    have hs2 := b2.size
    clear b2 r0 r1 r2 r3 r4 KAx KBx HAx HUx HXx
    cases h1 : isCondB c
    · have HE : Hid (parseC s = none) := by show _ = _; rw [HPC.out, h1]; rfl
      obtain ⟨r0, r1, r2, r3, r4⟩ := KA2.out.five
      have q0 := KA2.out.frozen 0
      have q1 := KA2.out.frozen 1
      have q2 := KA2.out.frozen 2
      have q3 := KA2.out.frozen 3
      have q4 := KA2.out.frozen 4
      go_wp2
      clear r0 r1 r2 r3 r4 q0 q1 q2 q3 q4
      have hK9 := Blk.st5 KA2.out (.int .i64 0) (.string ⟨#[]⟩) (.slice none 0 0) (.string ⟨#[]⟩) (.string ⟨#[]⟩)
      have hU9 := Up.st5 HU2.out (Nat.le_refl _) (.int .i64 0) (.string ⟨#[]⟩) (.slice none 0 0) (.string ⟨#[]⟩) (.string ⟨#[]⟩)
      generalize (((((w2.setCell ⟨w.heap.size, 0, none⟩ (.int .i64 0)).setCell ⟨w.heap.size, 1, none⟩ (.string ⟨#[]⟩)).setCell ⟨w.heap.size, 2, none⟩ (.slice none 0 0)).setCell ⟨w.heap.size, 3, none⟩ (.string ⟨#[]⟩)).setCell ⟨w.heap.size, 4, none⟩ (.string ⟨#[]⟩)) = W9 at *
      obtain ⟨e0, e1, e2, e3, e4⟩ := hK9.five
      refine bodyPost_ret (v := .tuple #[.agg #[.int .i64 0, .string ⟨#[]⟩, .slice none 0 0, .string ⟨#[]⟩, .string ⟨#[]⟩], .bool false]) (by simp [results, Tryd.results8, go_sem, e0, e1, e2, e3, e4]) rfl ?_
      exact ⟨_, ret_pb (by rw [HE.out]; rfl), by rw [HE.out]; exact ⟨⟨[_, _, _, _, _], rfl, _, rfl, (TO.nil_ 9 _ _ _).tx⟩, Nat.le_refl _⟩, hU9⟩
    · skip
      obtain ⟨r0, r1, r2, r3, r4⟩ := KB2.out.five
      go_wp2_with fail
      refine (cFormC (hT0.out.up HU2.out) HA2.out hcz).mono ?_
      rintro e w3 ⟨rfl, b3⟩
      have KA3 := Lib.hid (KA2.out.up b3)
      have KB3 := Lib.hid (KB2.out.up b3)
      have HA3 := Lib.hid (HA2.out.up b3)
      have HU3 := Lib.hid (HU2.out.tr b3)
      have hs3 := b3.size
      clear b3 r0 r1 r2 r3 r4 KA2 KB2 HA2 HU2
      cases hq : ((formC c).toList == s.toList)
      · have HE : Hid (parseC s = none) := by show _ = _; rw [HPC.out, h1, decide_eq_false (str_eq_f hq)]; rfl
        obtain ⟨r0, r1, r2, r3, r4⟩ := KA3.out.five
        have q0 := KA3.out.frozen 0
        have q1 := KA3.out.frozen 1
        have q2 := KA3.out.frozen 2
        have q3 := KA3.out.frozen 3
        have q4 := KA3.out.frozen 4
        go_wp2
        clear r0 r1 r2 r3 r4 q0 q1 q2 q3 q4
        have hK9 := Blk.st5 KA3.out (.int .i64 0) (.string ⟨#[]⟩) (.slice none 0 0) (.string ⟨#[]⟩) (.string ⟨#[]⟩)
        have hU9 := Up.st5 HU3.out (Nat.le_refl _) (.int .i64 0) (.string ⟨#[]⟩) (.slice none 0 0) (.string ⟨#[]⟩) (.string ⟨#[]⟩)
        generalize (((((w3.setCell ⟨w.heap.size, 0, none⟩ (.int .i64 0)).setCell ⟨w.heap.size, 1, none⟩ (.string ⟨#[]⟩)).setCell ⟨w.heap.size, 2, none⟩ (.slice none 0 0)).setCell ⟨w.heap.size, 3, none⟩ (.string ⟨#[]⟩)).setCell ⟨w.heap.size, 4, none⟩ (.string ⟨#[]⟩)) = W9 at *
        obtain ⟨e0, e1, e2, e3, e4⟩ := hK9.five
        refine bodyPost_ret (v := .tuple #[.agg #[.int .i64 0, .string ⟨#[]⟩, .slice none 0 0, .string ⟨#[]⟩, .string ⟨#[]⟩], .bool false]) (by simp [results, Tryd.results8, go_sem, e0, e1, e2, e3, e4]) rfl ?_
        exact ⟨_, ret_pb (by rw [HE.out]; rfl), by rw [HE.out]; exact ⟨⟨[_, _, _, _, _], rfl, _, rfl, (TO.nil_ 9 _ _ _).tx⟩, Nat.le_refl _⟩, hU9⟩
      · have HE : Hid (parseC s = some c) := by show _ = _; rw [HPC.out, h1, decide_eq_true (str_eq_t hq)]; rfl
        obtain ⟨g0, g1, g2, g3, g4⟩ := KB3.out.five
        obtain ⟨r0, r1, r2, r3, r4⟩ := KA3.out.five
        have q0 := KA3.out.frozen 0
        have q1 := KA3.out.frozen 1
        have q2 := KA3.out.frozen 2
        have q3 := KA3.out.frozen 3
        have q4 := KA3.out.frozen 4
        go_wp2
        clear g0 g1 g2 g3 g4 r0 r1 r2 r3 r4 q0 q1 q2 q3 q4
        have hK9 := Blk.st5 KA3.out (.int .i64 c.kind) (.string c.pat.rel) (.slice xa c.pat.args.length xc) (.string c.left) (.string c.right)
        have hU9 := Up.st5 HU3.out (Nat.le_refl _) (.int .i64 c.kind) (.string c.pat.rel) (.slice xa c.pat.args.length xc) (.string c.left) (.string c.right)
        have htx := (AC.args HA3.out.1).keep (Stays.st5 w3 (p := w.heap.size) (.inl (by omega)) (.int .i64 c.kind) (.string c.pat.rel) (.slice xa c.pat.args.length xc) (.string c.left) (.string c.right))
        have hz9 := size_st5 w3 w.heap.size (.int .i64 c.kind) (.string c.pat.rel) (.slice xa c.pat.args.length xc) (.string c.left) (.string c.right)
        generalize (((((w3.setCell ⟨w.heap.size, 0, none⟩ (.int .i64 c.kind)).setCell ⟨w.heap.size, 1, none⟩ (.string c.pat.rel)).setCell ⟨w.heap.size, 2, none⟩ (.slice xa c.pat.args.length xc)).setCell ⟨w.heap.size, 3, none⟩ (.string c.left)).setCell ⟨w.heap.size, 4, none⟩ (.string c.right)) = W9 at *
        obtain ⟨e0, e1, e2, e3, e4⟩ := hK9.five
        refine bodyPost_ret (v := .tuple #[.agg #[.int .i64 c.kind, .string c.pat.rel, .slice xa c.pat.args.length xc, .string c.left, .string c.right], .bool true]) (by simp [results, Tryd.results8, go_sem, e0, e1, e2, e3, e4]) rfl ?_
        exact ⟨_, ret_pb (by rw [HE.out]; rfl), by rw [HE.out]; exact ⟨⟨[_, _, _, _, _], rfl, _, rfl, htx.mono (by omega) (by omega)⟩, Nat.le_refl _⟩, hU9⟩
end Go.Proofs.YtjaifoeagocapaaDoor
