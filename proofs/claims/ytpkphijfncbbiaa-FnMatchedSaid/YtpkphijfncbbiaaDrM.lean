/- A pattern, a fact and a binding that are drawn together; the world in which the cursor's block and one other have turned. -/
import Derived.Deep.DeepCutAuto
import Derived.Test.YtpkphijfncbbiaaDrI
import Derived.Test.YtpkphijfncbbiaaValueOf
import Derived.Test.YtpkphijfncbbiaaRg
namespace Go.Proofs.Ytpkphijfncbbiaa
open Go.RowKit
attribute [local go_sem ↓] Go.wp_at_zero Go.wp_at_succ
set_option linter.unusedVariables false
set_option linter.unusedSimpArgs false
/-- two blocks may have turned, the world may have grown -/
structure Fr (g q : Nat) (w w' : World) : Prop where
  os : w'.os = w.os
  tape : w'.tape = w.tape
  output : w'.output = w.output
  size : w.heap.size ≤ w'.heap.size
  block : ∀ k, k < w.heap.size → k ≠ g → k ≠ q → w'.heap[k]? = w.heap[k]?
section
variable {T : TypeId} {g q : Nat} {a b c w w' : World}
theorem Fr.rf (w : World) : Fr g q w w := ⟨rfl, rfl, rfl, Nat.le_refl _, fun _ _ _ _ => rfl⟩
theorem Fr.tr (h : Fr g q a b) (k : Fr g q b c) : Fr g q a c :=
  ⟨k.os.trans h.os, k.tape.trans h.tape, k.output.trans h.output, Nat.le_trans h.size k.size, fun i hi h1 h2 => (k.block i (by have := h.size; omega) h1 h2).trans (h.block i hi h1 h2)⟩
theorem Fr.up (h : Fr g q a b) (k : Up b c) : Fr g q a c := h.tr ⟨k.os, k.tape, k.output, k.size, fun i hi _ _ => k.block i hi⟩
theorem Fr.dr (h : Fr g q a b) (k : Dr T g b c) : Fr g q a c := h.tr ⟨k.2.os, k.2.tape, k.2.output, k.2.size, fun i hi h1 _ => k.2.block i hi (by omega)⟩
theorem Fr.set (h : Fr g q a b) (j : Nat) (v : Value) : Fr g q a (b.setCell ⟨q, j, none⟩ v) :=
  h.tr ⟨rfl, rfl, rfl, by simp [World.setCell], fun i hi _ h2 => Below.heap_setCell b ⟨q, j, none⟩ v i h2⟩
theorem Fr.grown {row : Option Nat} (h : Fr g q a b) (k : b.grownBy c row) (hr : ∀ x, row = some x → a.heap.size ≤ x) : Fr g q a c :=
  ⟨k.os.trans h.os, k.tape.trans h.tape, k.output.trans h.output, Nat.le_trans h.size k.size, fun i hi h1 h2 => (k.block i (by have := h.size; omega) (fun e => by have := hr i e.symm; omega)).trans (h.block i hi h1 h2)⟩
theorem Fr.below (h : Fr g q b c) (hb : Up a b) (hg : a.heap.size ≤ g) (hq : a.heap.size ≤ q) : Up a c :=
  show Below a.heap.size a c from ⟨h.os.trans hb.os, h.tape.trans hb.tape, h.output.trans hb.output, Nat.le_trans hb.size h.size, fun k hk => (h.block k (by have := hb.size; omega) (by omega) (by omega)).trans (hb.block k hk)⟩
theorem Blk.fr {x : Nat} {t : TypeId} {cs : Array Value} (h : Blk w x t cs) (hf : Fr g q w w') (h1 : x ≠ g) (h2 : x ≠ q) : Blk w' x t cs := (hf.block x h.lt h1 h2).trans h
theorem Ob.fr {α : Type} {R : World → Nat → Nat → Value → α → Prop} [Kp R] {lo hi : Nat} {v : Value} {x : α} (h : Ob R w lo hi v x) (hf : Fr g q w w') (h1 : hi ≤ g ∨ g < lo) (h2 : hi ≤ q ∨ q < lo) : Ob R w' lo hi v x :=
  ⟨Kp.keep h.1 fun y y1 y2 => hf.block y (by have := h.2; omega) (by omega) (by omega), Nat.le_trans h.2 hf.size⟩
theorem Cur.set1 (h : Cur T w g) (hq : g < q) (j : Nat) (v : Value) : Cur T (w.setCell ⟨q, j, none⟩ v) g :=
  h.chg (Chg.set1 w q j v) hq
end
theorem valS_30 {n : Nat} {B : List (ByteArray × ByteArray)} {t : ByteArray} (h : smallP n B) (ht : t.size ≤ 30) : (valS B t).size ≤ 30 := by
  unfold valS valueB
  split
  · simpa using ht
  · split
    · unfold findP
      cases hf : B.find? fun p => decide (p.1 = t) with
      | none => simp [ByteArray.size]
      | some p => simpa using (h.2 p (List.mem_of_find?_eq_some hf)).2
    · simp [ByteArray.size]
theorem tsum_le7 {L : List ByteArray} {n : Nat} (h : ∀ s ∈ L, s.size ≤ n) : tsum L ≤ L.length * n := by
  induction L with
  | nil => simp [tsum]
  | cons a r ih =>
    have h1 := ih fun s hs => h s (by simp [hs])
    have h2 := h a (by simp)
    simp only [tsum, List.length_cons, Nat.add_mul]
    omega
theorem fsz_300 {f : FactV} (h1 : f.rel.size ≤ 9) (h2 : ∀ s ∈ f.args, s.size ≤ 30) (h3 : f.args.length ≤ 5) : fsz f ≤ 300 := by
  have := tsum_le7 h2
  unfold fsz tsz; omega
set_option maxHeartbeats 8000000 in
set_option maxRecDepth 100000 in
theorem cDrawMatch {v : Value} {L : List Int} {lo hi : Nat} {w : World} (h : Ob BX w lo hi v L) (hok : ∀ n ∈ L, okB n) (hl : L.length ≤ 4096) :
    Calls Try.prog 26 #[v] w fun e w' => ∃ v' vf vb, e = .returned (.tuple #[v', vf, vb]) ∧ ∃ p f B, Ob AF w' w.heap.size w'.heap.size v' p ∧ Ob AF w' w.heap.size w'.heap.size vf f ∧ Ob SP w' w.heap.size w'.heap.size vb B ∧ fsz p ≤ 300 ∧ fsz f ≤ 300 ∧ smallP 7 B ∧ Up w w' := by
  obtain ⟨i0, hi0, hz0, hz1, hz2⟩ := info_parts Try.infoStr
  have hb0 : Up w ((w.alloc (.cells #[.string ⟨#[]⟩, .slice none 0 0] 27)).alloc (.cells #[.string ⟨#[]⟩, .slice none 0 0] 35)) := (Up.al1 _ _).al _
  have KA := Lib.hid (show Blk ((w.alloc (.cells #[.string ⟨#[]⟩, .slice none 0 0] 27)).alloc (.cells #[.string ⟨#[]⟩, .slice none 0 0] 35)) w.heap.size 27 #[.string ⟨#[]⟩, .slice none 0 0] from (Blk.new w 27 #[.string ⟨#[]⟩, .slice none 0 0]).alloc _)
  have KB := Lib.hid (show Blk ((w.alloc (.cells #[.string ⟨#[]⟩, .slice none 0 0] 27)).alloc (.cells #[.string ⟨#[]⟩, .slice none 0 0] 35)) (w.heap.size + 1) 35 #[.string ⟨#[]⟩, .slice none 0 0] from by have := Blk.new (w.alloc (.cells #[.string ⟨#[]⟩, .slice none 0 0] 27)) 35 #[.string ⟨#[]⟩, .slice none 0 0]; simpa using this)
  have hws : ((w.alloc (.cells #[.string ⟨#[]⟩, .slice none 0 0] 27)).alloc (.cells #[.string ⟨#[]⟩, .slice none 0 0] 35)).heap.size = w.heap.size + 2 := by simp
  have HH := Lib.hid (h.up hb0)
  have HB := Lib.hid hb0
  clear h hb0
  go_enter Try.func26, Try.ntmps26
  go_wp2_with fail
  generalize ((w.alloc (.cells #[.string ⟨#[]⟩, .slice none 0 0] 27)).alloc (.cells #[.string ⟨#[]⟩, .slice none 0 0] 35)) = W at *
  refine (cNew HH.out hok hl).mono ?_
  rintro e w1 ⟨g, rfl, hg, hc, b1⟩
  have KA1 := Lib.hid (KA.out.up b1); have KB1 := Lib.hid (KB.out.up b1)
  have hz1s := b1.size
  have HB1 := Lib.hid b1
  have hgl := hc.lt
  clear b1 KA KB
  go_wp2_with fail
  refine (cAnyP hc).mono ?_
  rintro e w2 ⟨v2, rfl, p, ho, hf, hd⟩
  obtain ⟨_, rfl, av, rfl, htx⟩ := ho.1
  obtain ⟨oa, oc, rfl⟩ := htx.form
  have hal := Up.al1 w2 (.cells #[.string p.rel, .slice oa p.args.length oc] 27)
  have HF := Lib.hid hf
  have HT3 := Lib.hid ((show Ob TX w2 w1.heap.size w2.heap.size (.slice oa p.args.length oc) p.args from ⟨htx, Nat.le_refl _⟩).up hal)
  have HD3 := Lib.hid (hd.up hal)
  have KA3 := Lib.hid ((KA1.out.dr_ hd (by omega)).up hal); have KB3 := Lib.hid ((KB1.out.dr_ hd (by omega)).up hal)
  have KP3 := Lib.hid (Blk.new w2 27 #[.string p.rel, .slice oa p.args.length oc])
  have hz2s := hd.2.size
  have hz3s : (w2.alloc (.cells #[.string p.rel, .slice oa p.args.length oc] 27)).heap.size = w2.heap.size + 1 := by simp
  clear ho hf htx hd hal hc KA1 KB1
  go_upto_region 3 with fail
  generalize w2.heap.size = pp at *
  generalize (w2.alloc (.cells #[.string p.rel, .slice oa p.args.length oc] 27)) = W3 at *
  go_wp2_with fail
  refine (cAnyF HD3.out.1).mono ?_
  rintro e w4 ⟨v4, rfl, f, ho, hf, hd⟩
  obtain ⟨_, rfl, av, rfl, htx⟩ := ho.1
  obtain ⟨fa, fc, rfl⟩ := htx.form
  have hal := Up.al1 w4 (.cells #[.string f.rel, .slice fa f.args.length fc] 35)
  have HFF := Lib.hid hf
  have HG5 := Lib.hid ((show Ob TX w4 W3.heap.size w4.heap.size (.slice fa f.args.length fc) f.args from ⟨htx, Nat.le_refl _⟩).up hal)
  have HT5 := Lib.hid ((HT3.out.dr_ hd (.inr (by omega))).up hal)
  have KA5 := Lib.hid ((KA3.out.dr_ hd (by omega)).up hal); have KB5 := Lib.hid ((KB3.out.dr_ hd (by omega)).up hal); have KP5 := Lib.hid ((KP3.out.dr_ hd (by omega)).up hal)
  have HD5 := Lib.hid ((HD3.out.tr hd).up hal)
  have KF5 := Lib.hid (Blk.new w4 35 #[.string f.rel, .slice fa f.args.length fc])
  have hz4s := hd.2.size
  have hz5s : (w4.alloc (.cells #[.string f.rel, .slice fa f.args.length fc] 35)).heap.size = w4.heap.size + 1 := by simp
  clear ho hf htx hd hal KA3 KB3 KP3 HT3 HD3
  go_upto_region 4 with fail
  generalize w4.heap.size = fp at *
  generalize (w4.alloc (.cells #[.string f.rel, .slice fa f.args.length fc] 35)) = W5 at *
  go_wp2_with fail
  refine (cAnyB HD5.out.1).mono ?_
  rintro e w6 ⟨vb, rfl, B, hob, hbs, hd⟩
  have HBs := Lib.hid hbs
  have HS6 := Lib.hid (show Ob SP w6 W5.heap.size w6.heap.size vb B from hob.sp)
  have HG6 := Lib.hid (HG5.out.dr_ hd (.inr (by omega))); have HT6 := Lib.hid (HT5.out.dr_ hd (.inr (by omega)))
  have KA6 := Lib.hid (KA5.out.dr_ hd (by omega)); have KB6 := Lib.hid (KB5.out.dr_ hd (by omega)); have KP6 := Lib.hid (KP5.out.dr_ hd (by omega)); have KF6 := Lib.hid (KF5.out.dr_ hd (by omega))
  have HD6 := Lib.hid (HD5.out.tr hd)
  have hz6s := hd.2.size
  obtain ⟨ba, bc, rfl⟩ := hob.1.sp.form
  clear hob hbs hd KA5 KB5 KP5 KF5 HT5 HG5 HD5
  go_wp2_with fail
  refine (cOnce (n := 3) HD6.out.1 (by decide) (by decide)).mono ?_
  rintro e w7 ⟨b5, rfl, hd⟩
  have HS7 := Lib.hid (HS6.out.dr_ hd (.inr (by omega))); have HG7 := Lib.hid (HG6.out.dr_ hd (.inr (by omega))); have HT7 := Lib.hid (HT6.out.dr_ hd (.inr (by omega)))
  have KA7 := Lib.hid (KA6.out.dr_ hd (by omega)); have KB7 := Lib.hid (KB6.out.dr_ hd (by omega)); have KP7 := Lib.hid (KP6.out.dr_ hd (by omega)); have KF7 := Lib.hid (KF6.out.dr_ hd (by omega))
  have HC7 := Lib.hid (HD6.out.tr hd).1
  have HU7 := Lib.hid (HB.out.tr ((HD6.out.tr hd).below HB1.out hg))
  have hz7s := hd.2.size
  have hplen : p.args.length ≤ 5 := HF.out.2.2
  have hpsz : ∀ s ∈ p.args, s.size ≤ 9 := fun s hs => okW_size (HF.out.2.1 s hs)
  have hprel := okW_size HF.out.1
  have HZP : Hid (fsz p ≤ 300) := Nat.le_trans (okFW_fsz HF.out) (by omega)
  have HZF : Hid (fsz f ≤ 300) := Nat.le_trans (okFW_fsz HFF.out) (by omega)
  clear hd KA6 KB6 KP6 KF6 HS6 HT6 HG6 HD6 HB HB1 HH
  cases b5
  · have HF7 : Hid (Fr g fp w7 w7) := Fr.rf _
    have k0 := KP7.out.cell0; have l0 := KF7.out.cell0; have fz0 := KF7.out.frozen 0
    go_upto_region 7 with fail
    clear k0 l0 fz0
    have KF8 := Lib.hid (show Blk (w7.setCell ⟨fp, 0, none⟩ (.string p.rel)) fp 35 #[.string p.rel, .slice fa f.args.length fc] by have := KF7.out.set_ 0 (.string p.rel); simpa using this)
    have HR8 := Lib.hid (Fr.set HF7.out 0 (.string p.rel))
    have HC8 := Lib.hid (Cur.set1 HC7.out (show g < fp by omega) 0 (.string p.rel))
    have hz8s : (w7.setCell ⟨fp, 0, none⟩ (.string p.rel)).heap.size = w7.heap.size := by simp [World.setCell]
    clear HF7 KF7
    generalize (w7.setCell ⟨fp, 0, none⟩ (.string p.rel)) = W8 at *
    have l1 := (KF8.out.alloc (.cells #[] 9)).cell1; have fz1 := (KF8.out.alloc (.cells #[] 9)).frozen 1
    go_upto_region 8 with fail
    clear l1 fz1
    have KF9 := Lib.hid (show Blk ((W8.alloc (.cells #[] 9)).setCell ⟨fp, 1, none⟩ (.slice (some ⟨w7.heap.size, 0, none⟩) 0 0)) fp 35 #[.string p.rel, .slice (some ⟨w7.heap.size, 0, none⟩) 0 0] by have := (KF8.out.alloc (.cells #[] 9)).set_ 1 (.slice (some ⟨w7.heap.size, 0, none⟩) 0 0); simpa using this)
    have HR9 := Lib.hid (Fr.set (HR8.out.up (Up.al1 W8 (.cells #[] 9))) 1 (.slice (some ⟨w7.heap.size, 0, none⟩) 0 0))
    have HC9 := Lib.hid (Cur.set1 (HC8.out.up (Up.al1 W8 (.cells #[] 9))) (show g < fp by omega) 1 (.slice (some ⟨w7.heap.size, 0, none⟩) 0 0))
    have hz9s : ((W8.alloc (.cells #[] 9)).setCell ⟨fp, 1, none⟩ (.slice (some ⟨w7.heap.size, 0, none⟩) 0 0)).heap.size = (W8.alloc (.cells #[] 9)).heap.size := by simp [World.setCell]
    have hTm := TO.made_ 9 W8
    rw [hz8s] at hTm
    have HTO9 := Lib.hid ((hTm.keep ((Stays.refl (W8.alloc (.cells #[] 9)) w7.heap.size (W8.alloc (.cells #[] 9)).heap.size).setCell (p := ⟨fp, 1, none⟩) (.inl (by show fp < w7.heap.size; omega)) (.slice (some ⟨w7.heap.size, 0, none⟩) 0 0))).mono (Nat.le_refl _) (Nat.le_of_eq hz9s.symm))
    have hz9t : (W8.alloc (.cells #[] 9)).heap.size = W8.heap.size + 1 := by simp
    rw [hz9t] at hz9s
    clear KF8 HR8 HC8 hz9t hTm
    generalize ((W8.alloc (.cells #[] 9)).setCell ⟨fp, 1, none⟩ (.slice (some ⟨w7.heap.size, 0, none⟩) 0 0)) = W9 at *
    go_wp2_with fail
    go_loopw [9] (fun i wr => ∃ (k : Nat) (ov : Value) (M : List ByteArray), k ≤ p.args.length ∧ i = .int .i64 k ∧ M.length = k ∧ Hid (∀ s ∈ M, s.size ≤ 30) ∧ Hid (Fr g fp w7 wr) ∧ Hid (Cur 83 wr g) ∧ Hid (Blk wr fp 35 #[.string p.rel, ov]) ∧ Hid (TO 9 wr w7.heap.size wr.heap.size ov M) ∧ w7.heap.size < wr.heap.size) (fun i _ => p.args.length - (intOf i).toNat)
    case atStart =>
      have h0 : Hid (∀ s ∈ ([] : List ByteArray), s.size ≤ 30) := fun s h => by cases h
      exact ⟨0, _, [], Nat.zero_le _, rfl, rfl, h0, HR9.out, HC9.out, KF9.out, HTO9.out, by omega⟩
    case round =>
      clear HR9 HC9 KF9 HTO9 hz9s
      obtain ⟨k, ov, M, hk, rfl, hM, HM, HR, HC, HK, HTO, hLs⟩ := hrel
      have KPr := Lib.hid (KP7.out.fr HR.out (by omega) (by omega))
      have HTr := Lib.hid (HT7.out.fr HR.out (.inr (by omega)) (.inl (by omega)))
      have k1 := KPr.out.cell1
      by_cases hlt : k < p.args.length
      · obtain ⟨b, off, rfl, -, -, c0⟩ := HTr.out.1.at hlt
        have i1 : (0 : Int) ≤ (k : Int) := by omega
        have i2 : (k : Int) < (p.args.length : Int) := by omega
        have hs9 : p.args[k].size ≤ 9 := hpsz _ (List.getElem_mem hlt)
        have HSr := Lib.hid (HS7.out.fr HR.out (.inr (by omega)) (.inr (by omega)))
        go_wp2_with fail
        refine (cValueOfS HSr.out (by omega)).mono ?_
        rintro e w10 ⟨rfl, b10⟩
        have hv30 := valS_30 HBs.out (show p.args[k].size ≤ 30 by omega)
        generalize valS B p.args[k] = sv at *
        have HR10 := Lib.hid (HR.out.up b10); have HC10 := Lib.hid (HC.out.up b10); have HK10 := Lib.hid (HK.out.up b10)
        have HTO10 := Lib.hid ((show Ob (TO 9) wr w7.heap.size wr.heap.size ov M from ⟨HTO.out, Nat.le_refl _⟩).up b10)
        have hz10 := b10.size
        clear b10 k1 c0 HR HC HK HTO HSr KPr HTr
        cases hv : valOk B p.args[k]
        · skip
          go_wp2_with fail
          refine (cAtom HC10.out).mono ?_
          rintro e w11 ⟨s, rfl, hs, hd⟩
          have hs3 : s.size ≤ 30 := by have := okW_size hs; omega
          have HR11 := Lib.hid (HR10.out.dr hd); have HC11 := Lib.hid hd.1; have HK11 := Lib.hid (HK10.out.dr_ hd (by omega)); have HTO11 := Lib.hid (HTO10.out.dr_ hd (.inr (by omega)))
          have hz11 := hd.2.size
          clear hd hs HR10 HC10 HK10 HTO10
          have k0 := HK11.out.cell0; have k1 := HK11.out.cell1; have f0 := HK11.out.frozen 0; have f1 := HK11.out.frozen 1
          have HN := Lib.hid (news1 (Blk.new w11 9 #[.string s]))
          have hba : w7.heap.size ≤ (w11.alloc (.cells #[.string s] 9)).heap.size := by simp; omega
          have hMl : M.length ≤ 5 := by omega
          go_wp2_with (at_builtin; refine wpList_append_own _ rfl _ _ 22 rfl w7.heap.size 9 i0 _ 1 16 Try.underlying22 hi0 hz0 hz1 hz2 rfl (by decide) ov M.length (M.map Value.string) rfl (HTO11.out.1.1.alloc _) ⟨w11.heap.size, 0, none⟩ 1 1 [.string s] rfl rfl HN.out (one1 rfl) (by unfold maxLen; omega) (by omega) hba ?_; intro v6 w6 hown' hgrow _; have hrow : ∀ x, ov.ownBlock = some x → w7.heap.size ≤ x := (fun x hx => (HTO11.out.1.1.lt x hx).1); have hne : some fp ≠ ov.ownBlock := (fun h => by have := hrow fp h.symm; omega); have hal := Up.al1 w11 (.cells #[.string s] 9); have KF6 : Blk w6 fp 35 #[.string p.rel, ov] := ((hgrow.block fp (HK11.out.up hal).lt hne).trans (HK11.out.up hal)); clear k0 k1 f0 f1; have k0 := KF6.cell0; have k1 := KF6.cell1; have f0 := KF6.frozen 0; have f1 := KF6.frozen 1; have HKF6 := Lib.hid KF6; have HTO6 : Hid (TO 9 w6 w7.heap.size w6.heap.size v6 (M ++ [s])) := TO.snoc hown'; obtain ⟨a6, c6, e6⟩ := HTO6.out.tx.form; rw [List.length_append, List.length_singleton, hM] at e6; subst e6; have HR6 : Hid (Fr g fp w7 w6) := Fr.grown (HR11.out.up hal) hgrow (fun x hx => by have := hrow x hx; omega); have HC6 : Hid (Cur 83 w6 g) := Cur.grown (HC11.out.up hal) hgrow (fun x hx => ⟨by have := hrow x hx; omega, (HTO11.out.1.1.alloc (.cells #[.string s] 9)).lt x hx |>.2⟩); have hs6 : w11.heap.size + 1 ≤ w6.heap.size := (by have := hgrow.size; simpa using this); clear hown' hgrow KF6 hne hal hrow)
          clear k0 k1 f0 f1
          have hK7 : Blk (w6.setCell ⟨fp, 1, none⟩ (.slice a6 (k + 1) c6)) fp 35 #[.string p.rel, (.slice a6 (k + 1) c6)] := by have := HKF6.out.set_ 1 (.slice a6 (k + 1) c6); simpa using this
          have hR7 := Fr.set HR6.out 1 (.slice a6 (k + 1) c6)
          have hC7 := Cur.set1 HC6.out (show g < fp by omega) 1 (.slice a6 (k + 1) c6)
          have hz7 : w6.heap.size = (w6.setCell ⟨fp, 1, none⟩ (.slice a6 (k + 1) c6)).heap.size := by simp [World.setCell]
          have hT7 := (HTO6.out.keep ((Stays.refl w6 w7.heap.size w6.heap.size).setCell (p := ⟨fp, 1, none⟩) (.inl (by show fp < w7.heap.size; omega)) (.slice a6 (k + 1) c6))).mono (Nat.le_refl _) (Nat.le_of_eq hz7)
          have hM7 : ∀ t ∈ M ++ [s], t.size ≤ 30 := fun t ht => by
            rcases List.mem_append.1 ht with ht | ht
            · exact HM.out t ht
            · simp at ht; subst ht; exact hs3
          exact ⟨⟨k+1, _, M ++ [s], by omega, by go_num, by simp; omega, hM7, hR7, hC7, hK7, hT7, by omega⟩, by simp [intOf]; omega⟩
        · skip
          go_wp2_with fail
          refine (cOnce (n := 8) HC10.out (by decide) (by decide)).mono ?_
          rintro e w11 ⟨b6, rfl, hd⟩
          have HR11 := Lib.hid (HR10.out.dr hd); have HC11 := Lib.hid hd.1; have HK11 := Lib.hid (HK10.out.dr_ hd (by omega)); have HTO11 := Lib.hid (HTO10.out.dr_ hd (.inr (by omega)))
          have hz11 := hd.2.size
          clear hd HR10 HC10 HK10 HTO10
          cases b6
          · skip
            have k0 := HK11.out.cell0; have k1 := HK11.out.cell1; have f0 := HK11.out.frozen 0; have f1 := HK11.out.frozen 1
            have HN := Lib.hid (news1 (Blk.new w11 9 #[.string sv]))
            have hba : w7.heap.size ≤ (w11.alloc (.cells #[.string sv] 9)).heap.size := by simp; omega
            have hMl : M.length ≤ 5 := by omega
            go_wp2_with (at_builtin; refine wpList_append_own _ rfl _ _ 22 rfl w7.heap.size 9 i0 _ 1 16 Try.underlying22 hi0 hz0 hz1 hz2 rfl (by decide) ov M.length (M.map Value.string) rfl (HTO11.out.1.1.alloc _) ⟨w11.heap.size, 0, none⟩ 1 1 [.string sv] rfl rfl HN.out (one1 rfl) (by unfold maxLen; omega) (by omega) hba ?_; intro v6 w6 hown' hgrow _; have hrow : ∀ x, ov.ownBlock = some x → w7.heap.size ≤ x := (fun x hx => (HTO11.out.1.1.lt x hx).1); have hne : some fp ≠ ov.ownBlock := (fun h => by have := hrow fp h.symm; omega); have hal := Up.al1 w11 (.cells #[.string sv] 9); have KF6 : Blk w6 fp 35 #[.string p.rel, ov] := ((hgrow.block fp (HK11.out.up hal).lt hne).trans (HK11.out.up hal)); clear k0 k1 f0 f1; have k0 := KF6.cell0; have k1 := KF6.cell1; have f0 := KF6.frozen 0; have f1 := KF6.frozen 1; have HKF6 := Lib.hid KF6; have HTO6 : Hid (TO 9 w6 w7.heap.size w6.heap.size v6 (M ++ [sv])) := TO.snoc hown'; obtain ⟨a6, c6, e6⟩ := HTO6.out.tx.form; rw [List.length_append, List.length_singleton, hM] at e6; subst e6; have HR6 : Hid (Fr g fp w7 w6) := Fr.grown (HR11.out.up hal) hgrow (fun x hx => by have := hrow x hx; omega); have HC6 : Hid (Cur 83 w6 g) := Cur.grown (HC11.out.up hal) hgrow (fun x hx => ⟨by have := hrow x hx; omega, (HTO11.out.1.1.alloc (.cells #[.string sv] 9)).lt x hx |>.2⟩); have hs6 : w11.heap.size + 1 ≤ w6.heap.size := (by have := hgrow.size; simpa using this); clear hown' hgrow KF6 hne hal hrow)
            clear k0 k1 f0 f1
            have hK7 : Blk (w6.setCell ⟨fp, 1, none⟩ (.slice a6 (k + 1) c6)) fp 35 #[.string p.rel, (.slice a6 (k + 1) c6)] := by have := HKF6.out.set_ 1 (.slice a6 (k + 1) c6); simpa using this
            have hR7 := Fr.set HR6.out 1 (.slice a6 (k + 1) c6)
            have hC7 := Cur.set1 HC6.out (show g < fp by omega) 1 (.slice a6 (k + 1) c6)
            have hz7 : w6.heap.size = (w6.setCell ⟨fp, 1, none⟩ (.slice a6 (k + 1) c6)).heap.size := by simp [World.setCell]
            have hT7 := (HTO6.out.keep ((Stays.refl w6 w7.heap.size w6.heap.size).setCell (p := ⟨fp, 1, none⟩) (.inl (by show fp < w7.heap.size; omega)) (.slice a6 (k + 1) c6))).mono (Nat.le_refl _) (Nat.le_of_eq hz7)
            have hM7 : ∀ t ∈ M ++ [sv], t.size ≤ 30 := fun t ht => by
              rcases List.mem_append.1 ht with ht | ht
              · exact HM.out t ht
              · simp at ht; subst ht; exact hv30
            exact ⟨⟨k+1, _, M ++ [sv], by omega, by go_num, by simp; omega, hM7, hR7, hC7, hK7, hT7, by omega⟩, by simp [intOf]; omega⟩
          · go_wp2_with fail
            refine (cAtom HC11.out).mono ?_
            rintro e w12 ⟨s, rfl, hs, hd⟩
            have hs3 : s.size ≤ 30 := by have := okW_size hs; omega
            have HR12 := Lib.hid (HR11.out.dr hd); have HC12 := Lib.hid hd.1; have HK12 := Lib.hid (HK11.out.dr_ hd (by omega)); have HTO12 := Lib.hid (HTO11.out.dr_ hd (.inr (by omega)))
            have hz12 := hd.2.size
            clear hd hs HR11 HC11 HK11 HTO11
            have k0 := HK12.out.cell0; have k1 := HK12.out.cell1; have f0 := HK12.out.frozen 0; have f1 := HK12.out.frozen 1
            have HN := Lib.hid (news1 (Blk.new w12 9 #[.string s]))
            have hba : w7.heap.size ≤ (w12.alloc (.cells #[.string s] 9)).heap.size := by simp; omega
            have hMl : M.length ≤ 5 := by omega
            go_wp2_with (at_builtin; refine wpList_append_own _ rfl _ _ 22 rfl w7.heap.size 9 i0 _ 1 16 Try.underlying22 hi0 hz0 hz1 hz2 rfl (by decide) ov M.length (M.map Value.string) rfl (HTO12.out.1.1.alloc _) ⟨w12.heap.size, 0, none⟩ 1 1 [.string s] rfl rfl HN.out (one1 rfl) (by unfold maxLen; omega) (by omega) hba ?_; intro v6 w6 hown' hgrow _; have hrow : ∀ x, ov.ownBlock = some x → w7.heap.size ≤ x := (fun x hx => (HTO12.out.1.1.lt x hx).1); have hne : some fp ≠ ov.ownBlock := (fun h => by have := hrow fp h.symm; omega); have hal := Up.al1 w12 (.cells #[.string s] 9); have KF6 : Blk w6 fp 35 #[.string p.rel, ov] := ((hgrow.block fp (HK12.out.up hal).lt hne).trans (HK12.out.up hal)); clear k0 k1 f0 f1; have k0 := KF6.cell0; have k1 := KF6.cell1; have f0 := KF6.frozen 0; have f1 := KF6.frozen 1; have HKF6 := Lib.hid KF6; have HTO6 : Hid (TO 9 w6 w7.heap.size w6.heap.size v6 (M ++ [s])) := TO.snoc hown'; obtain ⟨a6, c6, e6⟩ := HTO6.out.tx.form; rw [List.length_append, List.length_singleton, hM] at e6; subst e6; have HR6 : Hid (Fr g fp w7 w6) := Fr.grown (HR12.out.up hal) hgrow (fun x hx => by have := hrow x hx; omega); have HC6 : Hid (Cur 83 w6 g) := Cur.grown (HC12.out.up hal) hgrow (fun x hx => ⟨by have := hrow x hx; omega, (HTO12.out.1.1.alloc (.cells #[.string s] 9)).lt x hx |>.2⟩); have hs6 : w12.heap.size + 1 ≤ w6.heap.size := (by have := hgrow.size; simpa using this); clear hown' hgrow KF6 hne hal hrow)
            clear k0 k1 f0 f1
            have hK7 : Blk (w6.setCell ⟨fp, 1, none⟩ (.slice a6 (k + 1) c6)) fp 35 #[.string p.rel, (.slice a6 (k + 1) c6)] := by have := HKF6.out.set_ 1 (.slice a6 (k + 1) c6); simpa using this
            have hR7 := Fr.set HR6.out 1 (.slice a6 (k + 1) c6)
            have hC7 := Cur.set1 HC6.out (show g < fp by omega) 1 (.slice a6 (k + 1) c6)
            have hz7 : w6.heap.size = (w6.setCell ⟨fp, 1, none⟩ (.slice a6 (k + 1) c6)).heap.size := by simp [World.setCell]
            have hT7 := (HTO6.out.keep ((Stays.refl w6 w7.heap.size w6.heap.size).setCell (p := ⟨fp, 1, none⟩) (.inl (by show fp < w7.heap.size; omega)) (.slice a6 (k + 1) c6))).mono (Nat.le_refl _) (Nat.le_of_eq hz7)
            have hM7 : ∀ t ∈ M ++ [s], t.size ≤ 30 := fun t ht => by
              rcases List.mem_append.1 ht with ht | ht
              · exact HM.out t ht
              · simp at ht; subst ht; exact hs3
            exact ⟨⟨k+1, _, M ++ [s], by omega, by go_num, by simp; omega, hM7, hR7, hC7, hK7, hT7, by omega⟩, by simp [intOf]; omega⟩
      · have hmp : M.length = p.args.length := by omega
        obtain ⟨ga, gc, e6⟩ := HTO.out.tx.form
        rw [hM] at e6
        subst e6
        have HGr := Lib.hid (show Ob TX wr w7.heap.size wr.heap.size (.slice ga k gc) M from ⟨HTO.out.tx, Nat.le_refl _⟩)
        have KAr := Lib.hid (KA7.out.fr HR.out (by omega) (by omega)); have KBr := Lib.hid (KB7.out.fr HR.out (by omega) (by omega))
        have HSr := Lib.hid (HS7.out.fr HR.out (.inr (by omega)) (.inr (by omega)))
        have HUr := Lib.hid (HR.out.below HU7.out (by omega) (by omega))
        have HZ9 : Hid (fsz ⟨p.rel, M⟩ ≤ 300) := fsz_300 hprel HM.out (by show M.length ≤ 5; omega)
        have i2 : ¬ (k : Int) < (p.args.length : Int) := by omega
        clear HC HR HTO HM
        go_upto_region 15 with fail
        have u0 := (Up.rf wr).dr
        have XA0 := Lib.hid (KAr.out.up u0)
        have XB0 := Lib.hid (KBr.out.up u0)
        have XP0 := Lib.hid (KPr.out.up u0)
        have XF0 := Lib.hid (HK.out.up u0)
        have XT0 := Lib.hid (HTr.out.up u0)
        have XG0 := Lib.hid (HGr.out.up u0)
        have XS0 := Lib.hid (HSr.out.up u0)
        have XU0 := Lib.hid (HUr.out.tr u0)
        refine wp_region_held_drew (S := (fun w' => w'.cell? ⟨pp, 0, none⟩ = some (.string p.rel) ∧ w'.cell? ⟨pp, 1, none⟩ = some (.slice oa p.args.length oc) ∧ w'.cell? ⟨fp, 0, none⟩ = some (.string p.rel) ∧ w'.cell? ⟨fp, 1, none⟩ = some (.slice ga k gc))) (by kernel_rfl) (by (try dsimp only); exact ⟨XP0.out.cell 0, XP0.out.cell 1, XF0.out.cell 0, XF0.out.cell 1⟩) (fun hHeld => ?_)
        clear u0
        generalize wr.drew = Y0 at *
        refine takeW (i := 0) (v := ?_) rfl (by kernel_rfl) (by kernel_rfl) (by kernel_rfl) (fun _ _ _ h => h) (by rfl) (by assumption) ?_ ?_
        rotate_left
        · (intro w9 hSw; (try dsimp only at hSw); go_simp; (try with_reducible rfl))
        simp only [Act.put, List.setIfInBounds_toArray, List.set_cons_zero, List.set_cons_succ]
        refine takeW (i := 1) (v := ?_) rfl (by kernel_rfl) (by kernel_rfl) (by kernel_rfl) (fun _ _ _ h => h) (by rfl) (by assumption) ?_ ?_
        rotate_left
        · (intro w9 hSw; (try dsimp only at hSw); go_simp; (try with_reducible rfl))
        simp only [Act.put, List.setIfInBounds_toArray, List.set_cons_zero, List.set_cons_succ]
        refine takeW (i := 2) (v := ?_) rfl (by kernel_rfl) (by kernel_rfl) (by kernel_rfl) (fun _ _ _ h => h) (by rfl) (by assumption) ?_ ?_
        rotate_left
        · (intro w9 hSw; (try dsimp only at hSw); go_simp; (try with_reducible rfl))
        simp only [Act.put, List.setIfInBounds_toArray, List.set_cons_zero, List.set_cons_succ]
        have r0 : Y0.cell? ⟨w.heap.size, 0, none⟩ = some (.string ⟨#[]⟩) := XA0.out.cell 0
        have r1 : Y0.cell? ⟨w.heap.size, 1, none⟩ = some (.slice none 0 0) := XA0.out.cell 1
        have q0 := XA0.out.frozen 0; have q1 := XA0.out.frozen 1
        refine comeC (i := 3) rfl (by kernel_rfl) (by rfl) (fun K hK => ?_)
        go_simp
        have XA1 := Lib.hid (XA0.out.two (.string p.rel) (.slice oa p.args.length oc))
        have XB1 := Lib.hid ((XB0.out.far (p := ⟨w.heap.size, 0, none⟩) (by show _ ≠ w.heap.size; omega) (.string p.rel)).far (p := ⟨w.heap.size, 1, none⟩) (by show _ ≠ w.heap.size; omega) (.slice oa p.args.length oc))
        have XP1 := Lib.hid ((XP0.out.far (p := ⟨w.heap.size, 0, none⟩) (by show _ ≠ w.heap.size; omega) (.string p.rel)).far (p := ⟨w.heap.size, 1, none⟩) (by show _ ≠ w.heap.size; omega) (.slice oa p.args.length oc))
        have XF1 := Lib.hid ((XF0.out.far (p := ⟨w.heap.size, 0, none⟩) (by show _ ≠ w.heap.size; omega) (.string p.rel)).far (p := ⟨w.heap.size, 1, none⟩) (by show _ ≠ w.heap.size; omega) (.slice oa p.args.length oc))
        have XT1 := Lib.hid (XT0.out.two (p := w.heap.size) (.inl (by omega)) (.string p.rel) (.slice oa p.args.length oc))
        have XG1 := Lib.hid (XG0.out.two (p := w.heap.size) (.inl (by omega)) (.string p.rel) (.slice oa p.args.length oc))
        have XS1 := Lib.hid (XS0.out.two (p := w.heap.size) (.inl (by omega)) (.string p.rel) (.slice oa p.args.length oc))
        have XU1 := Lib.hid (Up.two (p := w.heap.size) XU0.out (by omega) (.string p.rel) (.slice oa p.args.length oc))
        clear r0 r1 q0 q1 XA0 XB0 XP0 XF0 XT0 XG0 XS0 XU0 hHeld
        refine hK.out _ _ (by (try dsimp only); exact ⟨XP1.out.cell 0, XP1.out.cell 1, XF1.out.cell 0, XF1.out.cell 1⟩) (fun hHeld => ?_)
        clear hK K
        try simp only [Act.put, List.setIfInBounds_toArray, List.set_cons_zero, List.set_cons_succ]
        generalize ((Y0.setCell ⟨w.heap.size, 0, none⟩ (.string p.rel)).setCell ⟨w.heap.size, 1, none⟩ (.slice oa p.args.length oc)) = Y1 at *
        have r0 : Y1.cell? ⟨w.heap.size + 1, 0, none⟩ = some (.string ⟨#[]⟩) := XB1.out.cell 0
        have r1 : Y1.cell? ⟨w.heap.size + 1, 1, none⟩ = some (.slice none 0 0) := XB1.out.cell 1
        have q0 := XB1.out.frozen 0; have q1 := XB1.out.frozen 1
        refine comeC (i := 4) rfl (by kernel_rfl) (by rfl) (fun K hK => ?_)
        go_simp
        have XA2 := Lib.hid ((XA1.out.far (p := ⟨w.heap.size + 1, 0, none⟩) (by show _ ≠ w.heap.size + 1; omega) (.string p.rel)).far (p := ⟨w.heap.size + 1, 1, none⟩) (by show _ ≠ w.heap.size + 1; omega) (.slice ga k gc))
        have XB2 := Lib.hid (XB1.out.two (.string p.rel) (.slice ga k gc))
        have XP2 := Lib.hid ((XP1.out.far (p := ⟨w.heap.size + 1, 0, none⟩) (by show _ ≠ w.heap.size + 1; omega) (.string p.rel)).far (p := ⟨w.heap.size + 1, 1, none⟩) (by show _ ≠ w.heap.size + 1; omega) (.slice ga k gc))
        have XF2 := Lib.hid ((XF1.out.far (p := ⟨w.heap.size + 1, 0, none⟩) (by show _ ≠ w.heap.size + 1; omega) (.string p.rel)).far (p := ⟨w.heap.size + 1, 1, none⟩) (by show _ ≠ w.heap.size + 1; omega) (.slice ga k gc))
        have XT2 := Lib.hid (XT1.out.two (p := w.heap.size + 1) (.inl (by omega)) (.string p.rel) (.slice ga k gc))
        have XG2 := Lib.hid (XG1.out.two (p := w.heap.size + 1) (.inl (by omega)) (.string p.rel) (.slice ga k gc))
        have XS2 := Lib.hid (XS1.out.two (p := w.heap.size + 1) (.inl (by omega)) (.string p.rel) (.slice ga k gc))
        have XU2 := Lib.hid (Up.two (p := w.heap.size + 1) XU1.out (by omega) (.string p.rel) (.slice ga k gc))
        clear r0 r1 q0 q1 XA1 XB1 XP1 XF1 XT1 XG1 XS1 XU1 hHeld
        refine hK.out _ _ (by (try dsimp only); exact ⟨XP2.out.cell 0, XP2.out.cell 1, XF2.out.cell 0, XF2.out.cell 1⟩) (fun hHeld => ?_)
        clear hK K
        try simp only [Act.put, List.setIfInBounds_toArray, List.set_cons_zero, List.set_cons_succ]
        generalize ((Y1.setCell ⟨w.heap.size + 1, 0, none⟩ (.string p.rel)).setCell ⟨w.heap.size + 1, 1, none⟩ (.slice ga k gc)) = Y2 at *
        refine takeW (i := 5) (v := ?_) rfl (by kernel_rfl) (by kernel_rfl) (by kernel_rfl) (fun _ _ _ h => h) (by rfl) (by assumption) ?_ ?_
        rotate_left
        · (intro w9 hSw; (try dsimp only at hSw); go_simp; (try with_reducible rfl))
        simp only [Act.put, List.setIfInBounds_toArray, List.set_cons_zero, List.set_cons_succ]
        refine wpAnyH_done (by kernel_rfl) ?_ _
        go_wp2
        have e0 := XA2.out.cell0; have e1 := XA2.out.cell1; have e2 := XB2.out.cell0; have e3 := XB2.out.cell1
        refine bodyPost_ret (v := .tuple #[.agg #[.string p.rel, .slice oa p.args.length oc], .agg #[.string p.rel, .slice ga k gc], .slice ba B.length bc]) (by simp [results, Try.results26, go_sem, e0, e1, e2, e3]) rfl ?_
        first
          | exact ⟨_, _, _, rfl, p, ⟨p.rel, M⟩, B, ⟨⟨[_, _], rfl, _, rfl, XT2.out.1.mono (by omega) XT2.out.2⟩, Nat.le_refl _⟩, ⟨⟨[_, _], rfl, _, rfl, XG2.out.1.mono (by omega) XG2.out.2⟩, Nat.le_refl _⟩, ⟨SP.mono9 XS2.out.1 (by omega) XS2.out.2, Nat.le_refl _⟩, HZP.out, HZ9.out, HBs.out, XU2.out⟩
          | exact ⟨_, _, _, rfl, p, ⟨⟨[_, _], rfl, _, rfl, XT2.out.1.mono (by omega) XT2.out.2⟩, Nat.le_refl _⟩, ⟨p.rel, M⟩, ⟨⟨[_, _], rfl, _, rfl, XG2.out.1.mono (by omega) XG2.out.2⟩, Nat.le_refl _⟩, B, ⟨SP.mono9 XS2.out.1 (by omega) XS2.out.2, Nat.le_refl _⟩, HZP.out, HZ9.out, HBs.out, XU2.out⟩
  · skip
    have HF9 := HF
    go_upto_region 15 with fail
    have u0 := (Up.rf w7).dr
    have XA0 := Lib.hid (KA7.out.up u0)
    have XB0 := Lib.hid (KB7.out.up u0)
    have XP0 := Lib.hid (KP7.out.up u0)
    have XF0 := Lib.hid (KF7.out.up u0)
    have XT0 := Lib.hid (HT7.out.up u0)
    have XG0 := Lib.hid (HG7.out.up u0)
    have XS0 := Lib.hid (HS7.out.up u0)
    have XU0 := Lib.hid (HU7.out.tr u0)
    refine wp_region_held_drew (S := (fun w' => w'.cell? ⟨pp, 0, none⟩ = some (.string p.rel) ∧ w'.cell? ⟨pp, 1, none⟩ = some (.slice oa p.args.length oc) ∧ w'.cell? ⟨fp, 0, none⟩ = some (.string f.rel) ∧ w'.cell? ⟨fp, 1, none⟩ = some (.slice fa f.args.length fc))) (by kernel_rfl) (by (try dsimp only); exact ⟨XP0.out.cell 0, XP0.out.cell 1, XF0.out.cell 0, XF0.out.cell 1⟩) (fun hHeld => ?_)
    clear u0
    generalize w7.drew = Y0 at *
    refine takeW (i := 0) (v := ?_) rfl (by kernel_rfl) (by kernel_rfl) (by kernel_rfl) (fun _ _ _ h => h) (by rfl) (by assumption) ?_ ?_
    rotate_left
    · (intro w9 hSw; (try dsimp only at hSw); go_simp; (try with_reducible rfl))
    simp only [Act.put, List.setIfInBounds_toArray, List.set_cons_zero, List.set_cons_succ]
    refine takeW (i := 1) (v := ?_) rfl (by kernel_rfl) (by kernel_rfl) (by kernel_rfl) (fun _ _ _ h => h) (by rfl) (by assumption) ?_ ?_
    rotate_left
    · (intro w9 hSw; (try dsimp only at hSw); go_simp; (try with_reducible rfl))
    simp only [Act.put, List.setIfInBounds_toArray, List.set_cons_zero, List.set_cons_succ]
    refine takeW (i := 2) (v := ?_) rfl (by kernel_rfl) (by kernel_rfl) (by kernel_rfl) (fun _ _ _ h => h) (by rfl) (by assumption) ?_ ?_
    rotate_left
    · (intro w9 hSw; (try dsimp only at hSw); go_simp; (try with_reducible rfl))
    simp only [Act.put, List.setIfInBounds_toArray, List.set_cons_zero, List.set_cons_succ]
    have r0 : Y0.cell? ⟨w.heap.size, 0, none⟩ = some (.string ⟨#[]⟩) := XA0.out.cell 0
    have r1 : Y0.cell? ⟨w.heap.size, 1, none⟩ = some (.slice none 0 0) := XA0.out.cell 1
    have q0 := XA0.out.frozen 0; have q1 := XA0.out.frozen 1
    refine comeC (i := 3) rfl (by kernel_rfl) (by rfl) (fun K hK => ?_)
    go_simp
    have XA1 := Lib.hid (XA0.out.two (.string p.rel) (.slice oa p.args.length oc))
    have XB1 := Lib.hid ((XB0.out.far (p := ⟨w.heap.size, 0, none⟩) (by show _ ≠ w.heap.size; omega) (.string p.rel)).far (p := ⟨w.heap.size, 1, none⟩) (by show _ ≠ w.heap.size; omega) (.slice oa p.args.length oc))
    have XP1 := Lib.hid ((XP0.out.far (p := ⟨w.heap.size, 0, none⟩) (by show _ ≠ w.heap.size; omega) (.string p.rel)).far (p := ⟨w.heap.size, 1, none⟩) (by show _ ≠ w.heap.size; omega) (.slice oa p.args.length oc))
    have XF1 := Lib.hid ((XF0.out.far (p := ⟨w.heap.size, 0, none⟩) (by show _ ≠ w.heap.size; omega) (.string p.rel)).far (p := ⟨w.heap.size, 1, none⟩) (by show _ ≠ w.heap.size; omega) (.slice oa p.args.length oc))
    have XT1 := Lib.hid (XT0.out.two (p := w.heap.size) (.inl (by omega)) (.string p.rel) (.slice oa p.args.length oc))
    have XG1 := Lib.hid (XG0.out.two (p := w.heap.size) (.inl (by omega)) (.string p.rel) (.slice oa p.args.length oc))
    have XS1 := Lib.hid (XS0.out.two (p := w.heap.size) (.inl (by omega)) (.string p.rel) (.slice oa p.args.length oc))
    have XU1 := Lib.hid (Up.two (p := w.heap.size) XU0.out (by omega) (.string p.rel) (.slice oa p.args.length oc))
    clear r0 r1 q0 q1 XA0 XB0 XP0 XF0 XT0 XG0 XS0 XU0 hHeld
    refine hK.out _ _ (by (try dsimp only); exact ⟨XP1.out.cell 0, XP1.out.cell 1, XF1.out.cell 0, XF1.out.cell 1⟩) (fun hHeld => ?_)
    clear hK K
    try simp only [Act.put, List.setIfInBounds_toArray, List.set_cons_zero, List.set_cons_succ]
    generalize ((Y0.setCell ⟨w.heap.size, 0, none⟩ (.string p.rel)).setCell ⟨w.heap.size, 1, none⟩ (.slice oa p.args.length oc)) = Y1 at *
    have r0 : Y1.cell? ⟨w.heap.size + 1, 0, none⟩ = some (.string ⟨#[]⟩) := XB1.out.cell 0
    have r1 : Y1.cell? ⟨w.heap.size + 1, 1, none⟩ = some (.slice none 0 0) := XB1.out.cell 1
    have q0 := XB1.out.frozen 0; have q1 := XB1.out.frozen 1
    refine comeC (i := 4) rfl (by kernel_rfl) (by rfl) (fun K hK => ?_)
    go_simp
    have XA2 := Lib.hid ((XA1.out.far (p := ⟨w.heap.size + 1, 0, none⟩) (by show _ ≠ w.heap.size + 1; omega) (.string f.rel)).far (p := ⟨w.heap.size + 1, 1, none⟩) (by show _ ≠ w.heap.size + 1; omega) (.slice fa f.args.length fc))
    have XB2 := Lib.hid (XB1.out.two (.string f.rel) (.slice fa f.args.length fc))
    have XP2 := Lib.hid ((XP1.out.far (p := ⟨w.heap.size + 1, 0, none⟩) (by show _ ≠ w.heap.size + 1; omega) (.string f.rel)).far (p := ⟨w.heap.size + 1, 1, none⟩) (by show _ ≠ w.heap.size + 1; omega) (.slice fa f.args.length fc))
    have XF2 := Lib.hid ((XF1.out.far (p := ⟨w.heap.size + 1, 0, none⟩) (by show _ ≠ w.heap.size + 1; omega) (.string f.rel)).far (p := ⟨w.heap.size + 1, 1, none⟩) (by show _ ≠ w.heap.size + 1; omega) (.slice fa f.args.length fc))
    have XT2 := Lib.hid (XT1.out.two (p := w.heap.size + 1) (.inl (by omega)) (.string f.rel) (.slice fa f.args.length fc))
    have XG2 := Lib.hid (XG1.out.two (p := w.heap.size + 1) (.inl (by omega)) (.string f.rel) (.slice fa f.args.length fc))
    have XS2 := Lib.hid (XS1.out.two (p := w.heap.size + 1) (.inl (by omega)) (.string f.rel) (.slice fa f.args.length fc))
    have XU2 := Lib.hid (Up.two (p := w.heap.size + 1) XU1.out (by omega) (.string f.rel) (.slice fa f.args.length fc))
    clear r0 r1 q0 q1 XA1 XB1 XP1 XF1 XT1 XG1 XS1 XU1 hHeld
    refine hK.out _ _ (by (try dsimp only); exact ⟨XP2.out.cell 0, XP2.out.cell 1, XF2.out.cell 0, XF2.out.cell 1⟩) (fun hHeld => ?_)
    clear hK K
    try simp only [Act.put, List.setIfInBounds_toArray, List.set_cons_zero, List.set_cons_succ]
    generalize ((Y1.setCell ⟨w.heap.size + 1, 0, none⟩ (.string f.rel)).setCell ⟨w.heap.size + 1, 1, none⟩ (.slice fa f.args.length fc)) = Y2 at *
    refine takeW (i := 5) (v := ?_) rfl (by kernel_rfl) (by kernel_rfl) (by kernel_rfl) (fun _ _ _ h => h) (by rfl) (by assumption) ?_ ?_
    rotate_left
    · (intro w9 hSw; (try dsimp only at hSw); go_simp; (try with_reducible rfl))
    simp only [Act.put, List.setIfInBounds_toArray, List.set_cons_zero, List.set_cons_succ]
    refine wpAnyH_done (by kernel_rfl) ?_ _
    go_wp2
    have e0 := XA2.out.cell0; have e1 := XA2.out.cell1; have e2 := XB2.out.cell0; have e3 := XB2.out.cell1
    refine bodyPost_ret (v := .tuple #[.agg #[.string p.rel, .slice oa p.args.length oc], .agg #[.string f.rel, .slice fa f.args.length fc], .slice ba B.length bc]) (by simp [results, Try.results26, go_sem, e0, e1, e2, e3]) rfl ?_
    first
      | exact ⟨_, _, _, rfl, p, f, B, ⟨⟨[_, _], rfl, _, rfl, XT2.out.1.mono (by omega) XT2.out.2⟩, Nat.le_refl _⟩, ⟨⟨[_, _], rfl, _, rfl, XG2.out.1.mono (by omega) XG2.out.2⟩, Nat.le_refl _⟩, ⟨SP.mono9 XS2.out.1 (by omega) XS2.out.2, Nat.le_refl _⟩, HZP.out, HZF.out, HBs.out, XU2.out⟩
      | exact ⟨_, _, _, rfl, p, ⟨⟨[_, _], rfl, _, rfl, XT2.out.1.mono (by omega) XT2.out.2⟩, Nat.le_refl _⟩, f, ⟨⟨[_, _], rfl, _, rfl, XG2.out.1.mono (by omega) XG2.out.2⟩, Nat.le_refl _⟩, B, ⟨SP.mono9 XS2.out.1 (by omega) XS2.out.2, Nat.le_refl _⟩, HZP.out, HZF.out, HBs.out, XU2.out⟩
end Go.Proofs.Ytpkphijfncbbiaa
