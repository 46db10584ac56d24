/- Lists of facts that are drawn: of each it is said that it is short and that its facts are. -/
import Derived.Test.YtgpgeegpaaoakaaDoorDr4
import Derived.Test.YtgpgeegpaaoakaaDoorPut2
import Derived.Test.YtgpgeegpaaoakaaDoorSl
import Derived.Test.YtgpgeegpaaoakaaDoorOrdA
import Derived.Test.YtgpgeegpaaoakaaDoorNum
namespace Go.Proofs.YtgpgeegpaaoakaaDoor
open Go.RowKit
attribute [local go_sem ↓] Go.wp_at_zero Go.wp_at_succ
set_option linter.unusedVariables false
theorem fssz_small {L : List FactV} (h : ∀ f ∈ L, fsz f ≤ 59) : fssz L ≤ L.length * 60 := by
  unfold fssz
  induction L with
  | nil => simp [fsum]
  | cons a r ih =>
    have h1 := h a (by simp)
    have h2 := ih fun f hf => h f (by simp [hf])
    simp only [fsum, List.length_cons, Nat.add_mul, Nat.one_mul]
    omega
/-- a fact that lies elsewhere appended to a list of the call's own -/
theorem SO.app_sf {E EF : TypeId} {w1 w2 : World} {lo mid hi : Nat} {v v' av : Value} {vs : List Value} {L : List FactV} {f : FactV} {o : Obj} (hne : E ≠ EF) (hS : FRows E w1 lo mid vs L) (hown : w1.ownsRow lo EF 2 v L.length (flatF L vs)) (hvm : ∀ g, v.ownBlock = some g → g < mid) (hv : TX w1 mid hi av f.args) (h1 : lo ≤ mid) (h2 : mid ≤ hi) (h3 : hi ≤ w1.heap.size)
    (hown' : w2.ownsRow lo EF 2 v' (L.length + 1) (flatF L vs ++ [.string f.rel, av])) (hg : (w1.alloc o).grownBy w2 v.ownBlock) : SF w2 lo w2.heap.size v' (L ++ [f]) := by
  have hz : (w1.alloc o).heap.size = w1.heap.size + 1 := by simp
  have hs := hg.size
  have hr2 := ((hS.keep (Stays.of_below (Up.al1 w1 o) (by omega))).grown hne (hown.alloc o) hg)
  have hx2 : TX w2 mid hi av f.args := (hv.keep (fun b _ hb => (Up.al1 w1 o).block b (by omega))).keep fun b hb hb' => hg.block b (by omega) (fun e => by have := hvm b e.symm; omega)
  have hlv := hS.1
  refine owns_sl (L := L ++ [f]) (by simpa using hown') (fun g hg => (hown'.lt g hg).2) fun i hi' => ?_
  by_cases hlt : i < L.length
  · refine ⟨[.string L[i].rel, vs[i]'(by omega)], rfl, fun j hj => ?_, ?_⟩
    · have hfl := flatF_len L vs hlv
      match j, hj with
      | 0, _ => rw [Nat.add_zero, List.getElem?_append_left (by omega), flatF_get0 L vs i hlt hlv]; rfl
      | 1, _ => rw [List.getElem?_append_left (by omega), flatF_get1 L vs i hlt hlv, List.getElem?_eq_getElem (by omega)]; rfl
    · rw [List.getElem_append_left hlt]
      exact ⟨vs[i]'(by omega), rfl, (hr2.2.1 i hlt (by omega)).tx.mono (Nat.le_refl _) (by omega)⟩
  · obtain rfl : i = L.length := by simp at hi'; omega
    refine ⟨[.string f.rel, av], rfl, fun j hj => ?_, ?_⟩
    · have hfl := flatF_len L vs hlv
      match j, hj with
      | 0, _ => rw [Nat.add_zero, List.getElem?_append_right (by omega), hfl]; simp
      | 1, _ => rw [List.getElem?_append_right (by omega), hfl]; simp
    · rw [List.getElem_append_right (by omega)]
      simp only [Nat.sub_self, List.getElem_cons_zero]
      exact ⟨av, rfl, hx2.mono h1 (by omega)⟩
section
variable {T : TypeId} {w2 a : World} {p g lo hi : Nat} {t : TypeId} {u v x y : Value}
/- a struct of two cells stored into a block of the call's own -/
theorem Blk.store2 (h : Blk w2 p t #[u, v]) (x y : Value) : Blk ((w2.setCell ⟨p, 0, none⟩ x).setCell ⟨p, 1, none⟩ y) p t #[x, y] := by
  have := (h.set_ 0 x).set_ 1 y
  simpa using this
theorem size_store2 (w2 : World) (p : Nat) (x y : Value) : ((w2.setCell ⟨p, 0, none⟩ x).setCell ⟨p, 1, none⟩ y).heap.size = w2.heap.size := by simp [World.setCell]
theorem Stays.store2 (w2 : World) (hp : p < lo ∨ hi ≤ p) (x y : Value) : Stays w2 ((w2.setCell ⟨p, 0, none⟩ x).setCell ⟨p, 1, none⟩ y) lo hi :=
  ((Stays.refl w2 lo hi).setCell (p := ⟨p, 0, none⟩) hp x).setCell (p := ⟨p, 1, none⟩) hp y
theorem Up.store2 (h : Up a w2) (hp : a.heap.size ≤ p) (x y : Value) : Up a ((w2.setCell ⟨p, 0, none⟩ x).setCell ⟨p, 1, none⟩ y) :=
  (h.setCell (p := ⟨p, 0, none⟩) hp x).setCell (p := ⟨p, 1, none⟩) hp y
theorem Dr.store2 (h : Dr T g a w2) (hg : g < a.heap.size) (hp : a.heap.size ≤ p) (x y : Value) : Dr T g a ((w2.setCell ⟨p, 0, none⟩ x).setCell ⟨p, 1, none⟩ y) :=
  h.own (((Below.refl a.heap.size w2).setCell (p := ⟨p, 0, none⟩) hp x).setCell (p := ⟨p, 1, none⟩) hp y) hg
theorem Ob.store2 {α : Type} {R : World → Nat → Nat → Value → α → Prop} [Kp R] {z : α} (h : Ob R w2 lo hi v z) (hp : p < lo ∨ hi ≤ p) (x y : Value) : Ob R ((w2.setCell ⟨p, 0, none⟩ x).setCell ⟨p, 1, none⟩ y) lo hi v z :=
  ⟨Kp.keep h.1 (Stays.store2 w2 hp x y), by rw [size_store2]; exact h.2⟩
end
theorem SF.mono_ {w : World} {lo hi lo' hi' : Nat} {v : Value} {L : List FactV} (h : SF w lo hi v L) (h1 : lo' ≤ lo) (h2 : hi ≤ hi') : SF w lo' hi' v L :=
  SL.mono h h1 h2 fun cs x hx => by obtain ⟨av, e, ht⟩ := hx; exact ⟨av, e, ht.mono h1 h2⟩
def smallFs (L : List FactV) : Prop := L.length ≤ 31 ∧ ∀ f ∈ L, fsz f ≤ 59
theorem smallFs_z {L : List FactV} (h : smallFs L) : fssz L ≤ 1860 := by have := fssz_small h.2; have := h.1; omega
def nF (j : Nat) : FactV := ⟨⟨#[110]⟩, [⟨(Lib.itoa j).toArray⟩]⟩
theorem nF_inj {j k : Nat} (h : nF j = nF k) : j = k := by
  unfold nF at h
  injection h with _ h
  injection h with h _
  injection h with h
  have h2 := congrArg Array.toList h
  simp only at h2
  rw [Lib.itoa_nonneg, Lib.itoa_nonneg] at h2
  have e1 := dec_round j
  rw [h2, dec_round k] at e1
  injection e1 with e1
  exact e1.symm
theorem nF_fsz {j : Nat} (h : j < 25) : fsz (nF j) ≤ 59 := by
  have h1 : (⟨(Lib.itoa j).toArray⟩ : ByteArray).size = (Lib.itoa j).length := by simp [ByteArray.size]
  have h2 := dec_len 2 j (by omega)
  rw [Lib.itoa_nonneg] at h1
  unfold nF fsz tsz
  simp only [tsum, List.length_singleton]
  rw [Lib.itoa_nonneg, h1]
  simp [ByteArray.size]; omega
def inv9 (k : Nat) (M : List FactV) : Prop := (∀ f ∈ M, fsz f ≤ 59) ∧ M.length ≤ 6 + k ∧ k ≤ M.length ∧ ∀ f ∈ M, f.rel ≠ ⟨#[110]⟩ ∨ ∃ j, j < k ∧ f = nF j
theorem inv9_0 {M : List FactV} (h : ∀ f ∈ M, okFW f) (hl : M.length ≤ 6) : inv9 0 M :=
  ⟨fun f hf => okFW_fsz (h f hf), hl, Nat.zero_le _, fun f hf => .inl fun e => okW_n (h f hf).1 (by rw [e])⟩
theorem inv9_s {M : List FactV} {k : Nat} (h : inv9 k M) (hk : k < 25) : inv9 (k + 1) (putF M (nF k)) := by
  obtain ⟨h1, h2, h3, h4⟩ := h
  have hn : nF k ∉ M := fun hm => by
    rcases h4 _ hm with h | ⟨j, hj, e⟩
    · exact h rfl
    · have := nF_inj e; omega
  have hl := putF_len hn
  refine ⟨fun f hf => ?_, by omega, by omega, fun f hf => ?_⟩
  · rcases (putF_mem M (nF k) f).1 hf with rfl | hf
    · exact nF_fsz hk
    · exact h1 f hf
  · rcases (putF_mem M (nF k) f).1 hf with rfl | hf
    · exact .inr ⟨k, by omega, rfl⟩
    · rcases h4 f hf with h | ⟨j, hj, e⟩
      · exact .inl h
      · exact .inr ⟨j, by omega, e⟩
set_option maxHeartbeats 4000000 in
set_option maxRecDepth 100000 in
theorem cSet6 {g : Nat} {w : World} (hc : Cur 42 w g) :
    Calls Tryd.prog 29 #[.pointer (some ⟨g, 0, none⟩), .int .i64 6] w fun e w' => ∃ v', e = .returned v' ∧ ∃ L, Ob (SO 9 26) w' w.heap.size w'.heap.size v' L ∧ L.length ≤ 6 ∧ (∀ f ∈ L, okFW f) ∧ Dr 42 g w w' := by
  have hgl := hc.lt
  have hb0 : Up w (w.alloc (.cells #[] 26)) := Up.al1 _ _
  have HC := Lib.hid (hc.up hb0)
  have HB0 := Lib.hid hb0
  have HS0 : Hid (Ob (SO 9 26) (w.alloc (.cells #[] 26)) w.heap.size (w.alloc (.cells #[] 26)).heap.size (.slice (some ⟨w.heap.size, 0, none⟩) 0 0) []) := ⟨SO.made_ _ _ w, Nat.le_refl _⟩
  clear hc hb0
  go_enter Tryd.func29, Tryd.ntmps29
  go_wp2_with fail
  generalize (w.alloc (.cells #[] 26)) = W at *
  refine (cBelow (n := 7) HC.out (by decide) (by decide)).mono ?_
  rintro e w1 ⟨m, rfl, hm, hd⟩
  have HD1 := Lib.hid (Dr.pre HB0.out hd)
  have HS1 := Lib.hid ((HS0.out.dr_ hd (.inr hgl)).1.mono9 (Nat.le_refl _) (Nat.le_trans (Nat.le_refl _) hd.2.size))
  have hsz1 := HD1.out.2.size
  clear hd HS0 HC HB0
  go_wp2_with fail
  go_loopw [5, 6] (fun o i wz => ∃ (ov : Value) (wr : World) (k : Nat) (M : List FactV), ov = o ∧ wr = wz ∧ k ≤ 6 ∧ i = .int .i64 k ∧ M.length + k ≤ 6 ∧ Hid (∀ f ∈ M, okFW f) ∧ Hid (Dr 42 g w wr) ∧ Hid (SO 9 26 wr w.heap.size wr.heap.size ov M)) (fun _ i _ => (intOf i).toNat)
  case atStart => exact ⟨_, _, m, [], rfl, rfl, by omega, rfl, by simp; omega, fun f hf => (by cases hf), HD1.out, HS1.out⟩
  case round =>
    obtain ⟨ov, wr, k, M, rfl, rfl, hk, rfl, hl, HM, HD, HS⟩ := hrel
    by_cases hlt : 0 < k
    · obtain ⟨j, rfl⟩ : ∃ j, k = j + 1 := ⟨k - 1, by omega⟩
      have i1 : (0 : Int) < (j : Int) + 1 := by omega
      go_wp2_with fail
      refine (cDrawF HD.out.1).mono ?_
      rintro e w2 ⟨v2, rfl, f, ho, hf, -, hd⟩
      have hz : fssz M ≤ 1048576 := by have := fssz_small (L := M) (fun f hf => okFW_fsz (HM.out f hf)); omega
      have hzf : fsz f ≤ 1048576 := by have := okFW_fsz hf; omega
      have HD2 := Lib.hid (HD.out.tr hd)
      have HS2 : Hid (Ob SF w2 w.heap.size wr.heap.size ov M) := ((show Ob (SO 9 26) wr w.heap.size wr.heap.size ov M from ⟨HS.out, Nat.le_refl _⟩).dr_ hd (.inr hgl)).sf
      have HF2 := Lib.hid ho.af
      have HM2 := Lib.hid (show ∀ h ∈ putF M f, okFW h from fun h hh => by
        rcases (putF_mem M f h).1 hh with rfl | hh
        · exact hf
        · exact HM.out h hh)
      have hml := putF_le M f
      have hsz2 := HD2.out.2.size
      clear ho hf hd HD HS HM
      go_wp2_with fail
      refine (cl2Put HS2.out HF2.out hz hzf).mono ?_
      rintro e w3 ⟨v3, rfl, ho, b3⟩
      have HD3 := Lib.hid (HD2.out.up b3)
      have HS3 := Lib.hid (ho.1.mono9 (show w.heap.size ≤ w2.heap.size from hsz2) (Nat.le_refl _))
      clear ho b3 HD2 HS2 HF2
      go_wp2
      exact ⟨⟨_, _, j, _, rfl, rfl, by omega, by go_num, by omega, HM2.out, HD3.out, HS3.out⟩, by simp [intOf]⟩
    · obtain rfl : k = 0 := by omega
      go_wp2
      go_ret
      exact ⟨_, rfl, M, ⟨HS.out, Nat.le_refl _⟩, by omega, HM.out, HD.out⟩
set_option maxHeartbeats 4000000 in
set_option maxRecDepth 100000 in
theorem cList {g : Nat} {w : World} (hc : Cur 42 w g) :
    Calls Tryd.prog 19 #[.pointer (some ⟨g, 0, none⟩)] w fun e w' => ∃ v', e = .returned v' ∧ ∃ L, Ob SF w' w.heap.size w'.heap.size v' L ∧ smallFs L ∧ Dr 42 g w w' := by
  have hgl := hc.lt
  obtain ⟨i0, hi0, hz0, hz1, hz2⟩ := info_parts Tryd.infoFactP
  have HC := Lib.hid hc
  clear hc
  go_enter Tryd.func19, Tryd.ntmps19
  go_wp2_with fail
  refine (cSet6 HC.out).mono ?_
  rintro e w1 ⟨v1, rfl, M, ho, hml, hM, hd⟩
  have HD1 := Lib.hid hd
  have HS1 := Lib.hid ho.1
  have HM := Lib.hid hM
  clear ho hM hd HC
  go_wp2_with fail
  refine (cBelow (n := 8) HD1.out.1 (by decide) (by decide)).mono ?_
  rintro e w2 ⟨k, rfl, hk, hd⟩
  have HD2 := Lib.hid (HD1.out.tr hd)
  have HS2 := Lib.hid (((show Ob (SO 9 26) w1 w.heap.size w1.heap.size v1 M from ⟨HS1.out, Nat.le_refl _⟩).dr_ hd (.inr hgl)).1.mono9 (Nat.le_refl _) hd.2.size)
  clear hd HD1 HS1
  have hs2 := HD2.out.2.size
  have hcs : k = 0 ∨ k = 1 ∨ 2 ≤ k := by omega
  rcases hcs with rfl | rfl | hk2
  · go_wp2_with fail
    refine (cAnyF HD2.out.1).mono ?_
    rintro e w3 ⟨v3, rfl, f, ho, hf, hd⟩
    obtain ⟨_, rfl, av, rfl, htx⟩ := ho.1
    obtain ⟨oa, oc, rfl⟩ := htx.form
    have HD3 := Lib.hid (HD2.out.tr hd)
    obtain ⟨vs, hr, hown⟩ := HS2.out.rows
    have hvm : ∀ b, (v1 : Value).ownBlock = some b → w.heap.size ≤ b ∧ b < w2.heap.size := fun b hb => hown.lt b hb
    have hS3 := (show Ob (SO 9 26) w2 w.heap.size w2.heap.size v1 M from ⟨HS2.out, Nat.le_refl _⟩).dr_ hd (.inr hgl)
    have hs3 := hd.2.size
    clear hr hown
    obtain ⟨vs, hr, hown⟩ := hS3.1.rows
    have hown3 := Lib.hid hown
    have HR3 := Lib.hid hr
    have HX3 := Lib.hid htx
    have hzf := okFW_fsz hf
    have HN := Lib.hid (news2 (Blk.new w3 26 #[.string f.rel, .slice oa f.args.length oc]))
    have hbase : w.heap.size ≤ (w3.alloc (.cells #[.string f.rel, .slice oa f.args.length oc] 26)).heap.size := by simp; omega
    clear ho hf htx hd hr hown hS3 HD2 HS2
    go_wp2_with (at_builtin; refine wpList_append_own _ rfl _ _ 29 rfl w.heap.size 26 i0 _ 2 40 Tryd.underlying29 hi0 hz0 hz1 hz2 rfl (by decide) _ M.length (flatF M vs) rfl (hown3.out.alloc _) ⟨w3.heap.size, 0, none⟩ 1 1 [.string f.rel, .slice oa f.args.length oc] rfl rfl HN.out (one2 rfl rfl) (by unfold maxLen; omega) (by omega) hbase ?_; intro v4 w4 hown' hgrow _)
    have HS4 : Hid (SF w4 w.heap.size w4.heap.size v4 (M ++ [f])) := SO.app_sf (by decide) HR3.out hown3.out (fun b hb => (hvm b hb).2) HX3.out hs2 hs3 (Nat.le_refl _) hown' hgrow
    have HD4 : Hid (Dr 42 g w w4) := HD3.out.own (((Below.refl w.heap.size w3).alloc (by omega) _).grown hgrow (by simp; omega) (fun b hb => by have := hvm b hb; omega)) hgl
    have HZ : Hid (smallFs (M ++ [f])) := ⟨by simp; omega, fun h hh => by
      rcases List.mem_append.1 hh with hh | hh
      · exact okFW_fsz (HM.out h hh)
      · simp at hh; subst hh; exact hzf⟩
    clear hown' hgrow hown3 HR3 HX3 HN HD3 hvm hbase
    go_wp2
    go_ret
    exact ⟨_, rfl, _, ⟨HS4.out, Nat.le_refl _⟩, HZ.out, HD4.out⟩
  · have HI : Hid (inv9 0 M) := inv9_0 HM.out hml
    go_wp2_with fail
    go_loopw [3, 4] (fun o i wz => ∃ (ov : Value) (wr : World) (j : Nat) (K : List FactV), ov = o ∧ wr = wz ∧ j ≤ 25 ∧ i = .int .i64 j ∧ Hid (inv9 j K) ∧ Hid (Dr 42 g w wr) ∧ Hid (SO 9 26 wr w.heap.size wr.heap.size ov K)) (fun _ i _ => 25 - (intOf i).toNat)
    case atStart => exact ⟨_, _, 0, M, rfl, rfl, by omega, rfl, HI.out, HD2.out, HS2.out⟩
    case round =>
      clear HI HD2 HS2 HM hml hs2
      obtain ⟨ov, wr, j, K, rfl, rfl, hj, rfl, HI, HD, HS⟩ := hrel
      have i1 : (0 : Int) ≤ (j : Int) := by omega
      by_cases hlt : j < 25
      · have i2 : (j : Int) < 25 := by omega
        go_wp2_with fail
        refine (cFormatIntS (n := (j : Int)) (by omega) (by omega)).mono ?_
        rintro e w3 ⟨rfl, b3⟩
        have hzK : fssz K ≤ 1048576 := by have := fssz_small HI.out.1; have := HI.out.2.1; omega
        have hzn : fsz (nF j) ≤ 1048576 := by have := nF_fsz hlt; omega
        have b4 := b3.tr (Up.al1 w3 (.cells #[.string (⟨(Lib.itoa j).toArray⟩ : ByteArray)] 9))
        have HDx := Lib.hid (HD.out.up b4)
        have HSx : Hid (Ob SF (w3.alloc (.cells #[.string (⟨(Lib.itoa j).toArray⟩ : ByteArray)] 9)) w.heap.size wr.heap.size ov K) := ((show Ob (SO 9 26) wr w.heap.size wr.heap.size ov K from ⟨HS.out, Nat.le_refl _⟩).up b4).sf
        have HTx := Lib.hid (TX.row_ 9 w3 [(⟨(Lib.itoa j).toArray⟩ : ByteArray)] (by simp))
        have HFx : Hid (Ob AF (w3.alloc (.cells #[.string (⟨(Lib.itoa j).toArray⟩ : ByteArray)] 9)) w3.heap.size (w3.alloc (.cells #[.string (⟨(Lib.itoa j).toArray⟩ : ByteArray)] 9)).heap.size (.agg #[.string ⟨#[110]⟩, .slice (some ⟨w3.heap.size, 0, none⟩) 1 1]) (nF j)) := ⟨⟨[_, _], rfl, _, rfl, HTx.out.1⟩, HTx.out.2⟩
        have HIx := Lib.hid (inv9_s HI.out hlt)
        have hs4 := HDx.out.2.size
        clear b3 b4 HI HD HS HTx
        go_wp2_with fail
        refine (cl2Put HSx.out HFx.out hzK hzn).mono ?_
        rintro e w5 ⟨v5, rfl, ho, b5⟩
        have HD5 := Lib.hid (HDx.out.up b5)
        have HS5 := Lib.hid (ho.1.mono9 hs4 (Nat.le_refl _))
        clear ho b5 HDx HSx HFx
        go_wp2
        exact ⟨⟨_, _, j + 1, _, rfl, rfl, by omega, by go_num, HIx.out, HD5.out, HS5.out⟩, by simp [intOf]; omega⟩
      · obtain rfl : j = 25 := by omega
        obtain ⟨a, cap, rfl⟩ := HS.out.sf.form
        have hcap : 25 ≤ cap := by
          obtain ⟨a9, c9, e9, l1, -⟩ := HS.out.sf
          injection e9 with _ _ e9
          subst e9
          have := HI.out.2.2.1; omega
        have hKl : 25 ≤ K.length := HI.out.2.2.1
        have hal : Up wr (wr.alloc (.cells ([23, 24, 25].map (Value.int .i64)).toArray 3)) := Up.al1 _ _
        go_wp2_with fail
        refine (cInt (HD.out.1.up hal) (IX.row_ 3 wr [23, 24, 25] (by decide)) (.inr HD.out.1.lt) (by decide) (by decide)).mono ?_
        rintro e w3 ⟨n, rfl, hn, hd⟩
        have hdr := Dr.pre hal hd
        have HD3 := Lib.hid (HD.out.tr hdr)
        have HS3 : Hid (Ob SF w3 w.heap.size wr.heap.size (.slice a K.length cap) K) := ((show Ob (SO 9 26) wr w.heap.size wr.heap.size (.slice a K.length cap) K from ⟨HS.out, Nat.le_refl _⟩).dr_ hdr (.inr hgl)).sf
        have hs3 := hdr.2.size
        obtain ⟨m, hm, rfl⟩ : ∃ m : Nat, m ≤ 25 ∧ n = (m : Int) := by
          simp only [List.mem_cons, List.not_mem_nil, or_false] at hn
          rcases hn with rfl | rfl | rfl
          · exact ⟨23, by decide, rfl⟩
          · exact ⟨24, by decide, rfl⟩
          · exact ⟨25, by decide, rfl⟩
        have i3 : (0 : Int) ≤ (m : Int) := by omega
        have i4 : (m : Int) ≤ (cap : Int) := by omega
        have HS4 : Hid (SF w3 w.heap.size w3.heap.size (.slice a m cap) (K.take m)) := SF.mono_ (HS3.out.1.take_ (k := m) (by omega)) (Nat.le_refl _) hs3
        have HZ : Hid (smallFs (K.take m)) := ⟨by simp; omega, fun h hh => HI.out.1 h (List.mem_of_mem_take hh)⟩
        clear hd hdr hal hn HD HS HS3 HI i1
        go_wp2
        go_ret
        exact ⟨_, rfl, _, ⟨HS4.out, Nat.le_refl _⟩, HZ.out, HD3.out⟩
  · have j0 : ((k : Int) == 0) = false := by rw [beq_eq_false_iff_ne]; omega
    have j1 : ((k : Int) == 1) = false := by rw [beq_eq_false_iff_ne]; omega
    have HZ : Hid (smallFs M) := ⟨by omega, fun h hh => okFW_fsz (HM.out h hh)⟩
    go_wp2
    go_ret
    exact ⟨_, rfl, _, ⟨HS2.out.sf, Nat.le_refl _⟩, HZ.out, HD2.out⟩
end Go.Proofs.YtgpgeegpaaoakaaDoor
