/- Facts and patterns that are drawn and may be none: of each it is said that its words are drawn words and that it is short. -/
import Derived.Test.YtpkphijfncbbiaaDr3
namespace Go.Proofs.Ytpkphijfncbbiaa
open Go.RowKit
attribute [local go_sem ↓] Go.wp_at_zero Go.wp_at_succ
set_option linter.unusedVariables false
theorem TX.take_ {w : World} {lo hi n cap k : Nat} {a : Option Addr} {L : List ByteArray} (h : TX w lo hi (.slice a n cap) L) (hk : k ≤ L.length) : TX w lo hi (.slice a k cap) (L.take k) := by
  obtain ⟨a', cap', e, h1, h2, hv⟩ := h
  injection e with e1 e2 e3
  subst e1 e3
  have hl : (L.take k).length = k := by rw [List.length_take]; omega
  refine ⟨a, cap, by rw [hl], by omega, h2, fun hp => ?_⟩
  obtain ⟨b, off, rfl, l1, l2, hc⟩ := hv (by omega)
  exact ⟨b, off, rfl, l1, l2, fun i hi => by rw [List.getElem_take]; exact hc i (by omega)⟩
/-- an owned list lies in one block -/
theorem TO.narrow {E : TypeId} {w : World} {lo hi g n cap : Nat} {L : List ByteArray} (h : TO E w lo hi (.slice (some ⟨g, 0, none⟩) n cap) L) : TX w g (g + 1) (.slice (some ⟨g, 0, none⟩) n cap) L := by
  obtain ⟨a, c, e, h1, h2, hv⟩ := h.tx
  refine ⟨a, c, e, h1, h2, fun hp => ?_⟩
  obtain ⟨b, off, e2, l1, l2, hc⟩ := hv hp
  injection e with e1 e3 e4
  rw [e2] at e1
  injection e1 with e5
  injection e5 with e6
  subst e6
  exact ⟨g, off, e2, Nat.le_refl _, by omega, hc⟩
def anyFL : List ByteArray := [⟨#[97]⟩, ⟨#[98]⟩, ⟨#[99]⟩, ⟨#[97]⟩]
theorem anyFL_ok : anyFL.all okW = true := by decide
set_option maxHeartbeats 4000000 in
set_option maxRecDepth 100000 in
theorem cAnyF {g : Nat} {w : World} (hc : Cur 83 w g) :
    Calls Try.prog 61 #[.pointer (some ⟨g, 0, none⟩)] w fun e w' => ∃ v', e = .returned v' ∧ ∃ f, Ob AF w' w.heap.size w'.heap.size v' f ∧ okFW f ∧ Dr 83 g w w' := by
  have hgl := hc.lt
  obtain ⟨i0, hi0, hz0, hz1, hz2⟩ := info_parts Try.infoStr
  have hb0 : Up w (w.alloc (.cells #[.string ⟨#[]⟩, .slice none 0 0] 35)) := Up.al1 _ _
  have KR := Lib.hid (Blk.new w 35 #[.string ⟨#[]⟩, .slice none 0 0])
  have HC := Lib.hid (hc.up hb0)
  have hws : (w.alloc (.cells #[.string ⟨#[]⟩, .slice none 0 0] 35)).heap.size = w.heap.size + 1 := by simp
  have HB0 := Lib.hid hb0
  clear hc hb0
  go_enter Try.func61, Try.ntmps61
  go_wp2_with fail
  generalize (w.alloc (.cells #[.string ⟨#[]⟩, .slice none 0 0] 35)) = W at *
  refine (cDrawF HC.out).mono ?_
  rintro e w1 ⟨v1, rfl, f, ho, hf, hfl, hd⟩
  obtain ⟨av, rfl, hto⟩ := ho.1
  obtain ⟨oa, oc, rfl⟩ := hto.tx.form
  have hsz1 := hd.2.size
  have HR : Hid (okW f.rel = true) := hf.1
  have HA : Hid (∀ s ∈ f.args, okW s = true) := hf.2.1
  have KR1 := Lib.hid ((KR.out.dr_ hd (by omega)).alloc (.cells #[.string f.rel, .slice oa f.args.length oc] 35))
  have HD1 := Lib.hid ((Dr.pre HB0.out hd).up (Up.al1 w1 (.cells #[.string f.rel, .slice oa f.args.length oc] 35)))
  have HK1 := Lib.hid (Blk.new w1 35 #[.string f.rel, .slice oa f.args.length oc])
  have HT1 := Lib.hid (ho.1 |> fun _ => (show Ob (TO 9) w1 W.heap.size w1.heap.size (.slice oa f.args.length oc) f.args from ⟨hto, Nat.le_refl _⟩).up (Up.al1 w1 (.cells #[.string f.rel, .slice oa f.args.length oc] 35)))
  have hz1w : (w1.alloc (.cells #[.string f.rel, .slice oa f.args.length oc] 35)).heap.size = w1.heap.size + 1 := by simp
  clear ho hf hto hd KR HC HB0
  go_wp2_with fail
  generalize (w1.alloc (.cells #[.string f.rel, .slice oa f.args.length oc] 35)) = W2 at *
  generalize hp : w1.heap.size = p at *
  have hwp : w.heap.size < p := by omega
  have hzW : W.heap.size = w.heap.size + 1 := hws
  refine (cBelow (n := 10) HD1.out.1 (by decide) (by decide)).mono ?_
  rintro e w2 ⟨k, rfl, hk, hd⟩
  have HD := Lib.hid (HD1.out.tr hd)
  have KR := Lib.hid (KR1.out.dr_ hd (by omega))
  have HK := Lib.hid (HK1.out.dr_ hd (by omega))
  have HT := Lib.hid (HT1.out.dr_ hd (.inr (by omega)))
  have hps : p < w2.heap.size := by have := hd.2.size; omega
  have i1 : (0 : Int) ≤ (k : Int) := by omega
  clear hd HD1 KR1 HK1 HT1 hz1w
  have hcs : k = 0 ∨ k = 1 ∨ k = 2 ∨ 3 ≤ k := by omega
  rcases hcs with rfl | rfl | rfl | hk3
  · go_wp2_with fail
    refine (cWord HD.out.1).mono ?_
    rintro e w3 ⟨s, rfl, hs, hd⟩
    have HS := Lib.hid hs
    have HD3 := Lib.hid (HD.out.tr hd)
    have KR3 := Lib.hid (KR.out.dr_ hd (by omega))
    have HK3 := Lib.hid (HK.out.dr_ hd (by omega))
    have HT3 := Lib.hid (HT.out.dr_ hd (.inr (by omega)))
    have hps3 := hd.2.size
    clear hs hd HD KR HK HT
    have k0 : w3.cell? ⟨p, 0, none⟩ = some (.string f.rel) := HK3.out.cell 0
    have f0 := HK3.out.frozen 0
    have HKx := Lib.hid (show Blk (w3.setCell ⟨p, 0, none⟩ (.string s)) p 35 #[.string s, (.slice oa f.args.length oc)] by have := HK3.out.set_ 0 (.string s); simpa using this)
    have KRx : Hid (Blk (w3.setCell ⟨p, 0, none⟩ (.string s)) w.heap.size 35 #[.string ⟨#[]⟩, .slice none 0 0]) := KR3.out.far (p := ⟨p, 0, none⟩) (by show w.heap.size ≠ p; omega) _
    have HDx : Hid (Dr 83 g w (w3.setCell ⟨p, 0, none⟩ (.string s))) := HD3.out.own ((Below.refl w.heap.size w3).setCell (p := ⟨p, 0, none⟩) (by show w.heap.size ≤ p; omega) _) hgl
    have hzx : (w3.setCell ⟨p, 0, none⟩ (.string s)).heap.size = w3.heap.size := by simp [World.setCell]
    have HTy : Hid (TX (w3.setCell ⟨p, 0, none⟩ (.string s)) W.heap.size p (.slice oa f.args.length oc) f.args) := HT3.out.1.tx.keep (fun b h1 h2 => ((Stays.refl w3 W.heap.size p).setCell (p := ⟨p, 0, none⟩) (.inr (Nat.le_refl p)) (.string s)) b h1 h2)
    have HTx : Hid (Ob TX (w3.setCell ⟨p, 0, none⟩ (.string s)) (w.heap.size + 1) (w3.setCell ⟨p, 0, none⟩ (.string s)).heap.size (.slice oa f.args.length oc) f.args) := ⟨HTy.out.mono (by omega) (by omega), Nat.le_refl _⟩
    clear HTy
    go_upto_region 9 with fail
    clear k0 f0
    generalize (w3.setCell ⟨p, 0, none⟩ (.string s)) = W8 at *
    have g0 : W8.cell? ⟨p, 0, none⟩ = some (.string s) := HKx.out.cell 0
    have g1 : W8.cell? ⟨p, 1, none⟩ = some (.slice oa f.args.length oc) := HKx.out.cell 1
    have r0 : W8.cell? ⟨w.heap.size, 0, none⟩ = some (.string ⟨#[]⟩) := KRx.out.cell 0
    have r1 : W8.cell? ⟨w.heap.size, 1, none⟩ = some (.slice none 0 0) := KRx.out.cell 1
    have q0 := KRx.out.frozen 0
    have q1 := KRx.out.frozen 1
    go_wp2
    clear g0 g1 r0 r1 q0 q1
    have hK9 : Blk ((W8.setCell ⟨w.heap.size, 0, none⟩ (.string s)).setCell ⟨w.heap.size, 1, none⟩ (.slice oa f.args.length oc)) w.heap.size 35 #[.string s, (.slice oa f.args.length oc)] := by have := (KRx.out.set_ 0 (.string s)).set_ 1 (.slice oa f.args.length oc); simpa using this
    have hD9 : Dr 83 g w ((W8.setCell ⟨w.heap.size, 0, none⟩ (.string s)).setCell ⟨w.heap.size, 1, none⟩ (.slice oa f.args.length oc)) := HDx.out.own (((Below.refl w.heap.size W8).setCell (p := ⟨w.heap.size, 0, none⟩) (Nat.le_refl _) _).setCell (p := ⟨w.heap.size, 1, none⟩) (Nat.le_refl _) _) hgl
    have hz9 : ((W8.setCell ⟨w.heap.size, 0, none⟩ (.string s)).setCell ⟨w.heap.size, 1, none⟩ (.slice oa f.args.length oc)).heap.size = W8.heap.size := by simp [World.setCell]
    have hT9 : Ob TX ((W8.setCell ⟨w.heap.size, 0, none⟩ (.string s)).setCell ⟨w.heap.size, 1, none⟩ (.slice oa f.args.length oc)) (w.heap.size + 1) W8.heap.size (.slice oa f.args.length oc) f.args := ⟨HTx.out.1.keep (fun b h1 h2 => (((Stays.refl W8 (w.heap.size + 1) W8.heap.size).setCell (p := ⟨w.heap.size, 0, none⟩) (.inl (by show w.heap.size < w.heap.size + 1; omega)) (.string s)).setCell (p := ⟨w.heap.size, 1, none⟩) (.inl (by show w.heap.size < w.heap.size + 1; omega)) (.slice oa f.args.length oc)) b h1 h2), by omega⟩
    generalize ((W8.setCell ⟨w.heap.size, 0, none⟩ (.string s)).setCell ⟨w.heap.size, 1, none⟩ (.slice oa f.args.length oc)) = W9 at *
    have e0 := hK9.cell0; have e1 := hK9.cell1
    refine bodyPost_ret (v := .agg #[.string s, (.slice oa f.args.length oc)]) (by simp [results, Try.results61, go_sem, e0, e1]) rfl ?_
    exact ⟨_, rfl, ⟨s, f.args⟩, ⟨⟨[_, _], rfl, _, rfl, hT9.1.mono (by omega) hT9.2⟩, Nat.le_refl _⟩, ⟨HS.out, HA.out, by show f.args.length ≤ 5; omega⟩, hD9⟩
  · generalize hav : ((.slice oa f.args.length oc) : Value) = av at *
    have k1 : w2.cell? ⟨p, 1, none⟩ = some av := HK.out.cell 1
    have hdr0 : Up w2 w2.drew := (Up.rf _).dr
    go_wp2_with fail
    have k1d : w2.drew.cell? ⟨p, 1, none⟩ = some av := (HK.out.up hdr0).cell 1
    have HCr := Lib.hid (HD.out.1.up hdr0)
    go_region_law
      (first
        | (refine step_append_lies _ (by rfl) _ _ _ (by rfl) W.heap.size 9 i0 _ 1 16 Try.underlying22 hi0 hz0 hz1 hz2 ?_ ?_ av f.args.length (f.args.map Value.string) ?_ (HT5.out.1.1.alloc _) ⟨w5.heap.size, 0, none⟩ 1 1 [.string s] ?_ ?_ ?_ ?_ ?_ ?_ ?_ ?_ (w5.heap.size + 1) ?_ ?_
           · rfl
           · omega
           · rfl
           · rfl
           · rfl
           · exact (news1 (Blk.new w5 9 #[.string s]))
           · exact (one1 rfl)
           · omega
           · unfold maxLen; omega
           · omega
           · simp; omega
           · simp
           intro gg cp w6 hown' hgrow hat hltg
           have hrow : ∀ b, (av : Value).ownBlock = some b → W.heap.size ≤ b ∧ b < p := (fun b hb => ⟨(HT5.out.1.1.lt b hb).1, HT5.out.1.2 b hb⟩)
           have hnp : ∀ b, b = p ∨ b ≤ w.heap.size → some b ≠ (av : Value).ownBlock := (fun b hb h => by have := hrow b h.symm; omega)
           have hal : Up w5 (w5.alloc (.cells #[.string s] 9)) := Up.al1 _ _
           have HK6 : Hid (Blk w6 p 35 #[.string f.rel, av]) := ((hgrow.block p (HK5.out.up hal).lt (hnp p (.inl rfl))).trans (HK5.out.up hal))
           have KR6 : Hid (Blk w6 w.heap.size 35 #[.string ⟨#[]⟩, .slice none 0 0]) := ((hgrow.block w.heap.size (KR5.out.up hal).lt (hnp _ (.inr (Nat.le_refl _)))).trans (KR5.out.up hal))
           have HT6 : Hid (TO 9 w6 W.heap.size w6.heap.size (.slice (some ⟨gg, 0, none⟩) (f.args.length + 1) cp) (f.args ++ [s])) := TO.snoc hown'
           have HD6 : Hid (Dr 83 g w w6) := HD5.out.own (((Below.refl w.heap.size w5).alloc (by omega) _).grown hgrow (by simp; omega) (fun b hb => by have := hrow b hb; omega)) hgl
           have hs6 : w5.heap.size + 1 ≤ w6.heap.size := (by have := hgrow.size; simpa using this)
           have hgp : gg < p ∨ p < gg := (by rcases hat with h | h; exact .inl (hrow gg h).2; exact .inr (by omega))
           have hgw : w.heap.size < gg := (by rcases hat with h | h; (have := hrow gg h; omega); omega)
           have k1 : w6.cell? ⟨p, 1, none⟩ = some av := HK6.out.cell 1
           have f1 := HK6.out.frozen 1
           clear hown' hgrow hat hrow hnp hal)
        | (go_simp; go_at_call 74; (with_reducible refine (cWord HCr.out).mono ?_); rintro e w5 ⟨s, rfl, hs, hd5⟩; have hdr := Dr.pre hdr0 hd5; have HS := Lib.hid hs; have HK5 := Lib.hid (HK.out.dr_ hdr (by omega)); have KR5 := Lib.hid (KR.out.dr_ hdr (by omega)); have HT5 := Lib.hid (HT.out.dr_ hdr (.inr (by omega))); have HD5 := Lib.hid (HD.out.tr hdr); have h5s : w2.heap.size ≤ w5.heap.size := hdr.2.size; have k1 : w5.cell? ⟨p, 1, none⟩ = some av := HK5.out.cell 1; have k1a : (w5.alloc (.cells #[.string s] 9)).cell? ⟨p, 1, none⟩ = some av := (HK5.out.alloc _).cell 1; clear hd5 hdr hs))
    all_goals
      have HKx := Lib.hid (show Blk (w6.setCell ⟨p, 1, none⟩ (.slice (some ⟨gg, 0, none⟩) (f.args.length + 1) cp)) p 35 #[.string f.rel, (.slice (some ⟨gg, 0, none⟩) (f.args.length + 1) cp)] by have := HK6.out.set_ 1 (.slice (some ⟨gg, 0, none⟩) (f.args.length + 1) cp); simpa using this)
      have KRx : Hid (Blk (w6.setCell ⟨p, 1, none⟩ (.slice (some ⟨gg, 0, none⟩) (f.args.length + 1) cp)) w.heap.size 35 #[.string ⟨#[]⟩, .slice none 0 0]) := KR6.out.far (p := ⟨p, 1, none⟩) (by show w.heap.size ≠ p; omega) _
      have HDx : Hid (Dr 83 g w (w6.setCell ⟨p, 1, none⟩ (.slice (some ⟨gg, 0, none⟩) (f.args.length + 1) cp))) := HD6.out.own ((Below.refl w.heap.size w6).setCell (p := ⟨p, 1, none⟩) (by show w.heap.size ≤ p; omega) _) hgl
      have hzx : (w6.setCell ⟨p, 1, none⟩ (.slice (some ⟨gg, 0, none⟩) (f.args.length + 1) cp)).heap.size = w6.heap.size := by simp [World.setCell]
      have HTy : Hid (TX (w6.setCell ⟨p, 1, none⟩ (.slice (some ⟨gg, 0, none⟩) (f.args.length + 1) cp)) gg (gg + 1) (.slice (some ⟨gg, 0, none⟩) (f.args.length + 1) cp) (f.args ++ [s])) := HT6.out.narrow.keep (fun b h1 h2 => ((Stays.refl w6 gg (gg + 1)).setCell (p := ⟨p, 1, none⟩) (by rcases hgp with h | h; exact .inr h; exact .inl h) (.slice (some ⟨gg, 0, none⟩) (f.args.length + 1) cp)) b h1 h2)
      have HTx : Hid (Ob TX (w6.setCell ⟨p, 1, none⟩ (.slice (some ⟨gg, 0, none⟩) (f.args.length + 1) cp)) (w.heap.size + 1) (w6.setCell ⟨p, 1, none⟩ (.slice (some ⟨gg, 0, none⟩) (f.args.length + 1) cp)).heap.size (.slice (some ⟨gg, 0, none⟩) (f.args.length + 1) cp) (f.args ++ [s])) := ⟨HTy.out.mono (by omega) (by omega), Nat.le_refl _⟩
      clear HTy
      go_upto_region 9 with fail
      clear k1 f1
      generalize (w6.setCell ⟨p, 1, none⟩ (.slice (some ⟨gg, 0, none⟩) (f.args.length + 1) cp)) = W8 at *
      have g0 : W8.cell? ⟨p, 0, none⟩ = some (.string f.rel) := HKx.out.cell 0
      have g1 : W8.cell? ⟨p, 1, none⟩ = some (.slice (some ⟨gg, 0, none⟩) (f.args.length + 1) cp) := HKx.out.cell 1
      have r0 : W8.cell? ⟨w.heap.size, 0, none⟩ = some (.string ⟨#[]⟩) := KRx.out.cell 0
      have r1 : W8.cell? ⟨w.heap.size, 1, none⟩ = some (.slice none 0 0) := KRx.out.cell 1
      have q0 := KRx.out.frozen 0
      have q1 := KRx.out.frozen 1
      go_wp2
      clear g0 g1 r0 r1 q0 q1
      have hK9 : Blk ((W8.setCell ⟨w.heap.size, 0, none⟩ (.string f.rel)).setCell ⟨w.heap.size, 1, none⟩ (.slice (some ⟨gg, 0, none⟩) (f.args.length + 1) cp)) w.heap.size 35 #[.string f.rel, (.slice (some ⟨gg, 0, none⟩) (f.args.length + 1) cp)] := by have := (KRx.out.set_ 0 (.string f.rel)).set_ 1 (.slice (some ⟨gg, 0, none⟩) (f.args.length + 1) cp); simpa using this
      have hD9 : Dr 83 g w ((W8.setCell ⟨w.heap.size, 0, none⟩ (.string f.rel)).setCell ⟨w.heap.size, 1, none⟩ (.slice (some ⟨gg, 0, none⟩) (f.args.length + 1) cp)) := HDx.out.own (((Below.refl w.heap.size W8).setCell (p := ⟨w.heap.size, 0, none⟩) (Nat.le_refl _) _).setCell (p := ⟨w.heap.size, 1, none⟩) (Nat.le_refl _) _) hgl
      have hz9 : ((W8.setCell ⟨w.heap.size, 0, none⟩ (.string f.rel)).setCell ⟨w.heap.size, 1, none⟩ (.slice (some ⟨gg, 0, none⟩) (f.args.length + 1) cp)).heap.size = W8.heap.size := by simp [World.setCell]
      have hT9 : Ob TX ((W8.setCell ⟨w.heap.size, 0, none⟩ (.string f.rel)).setCell ⟨w.heap.size, 1, none⟩ (.slice (some ⟨gg, 0, none⟩) (f.args.length + 1) cp)) (w.heap.size + 1) W8.heap.size (.slice (some ⟨gg, 0, none⟩) (f.args.length + 1) cp) (f.args ++ [s]) := ⟨HTx.out.1.keep (fun b h1 h2 => (((Stays.refl W8 (w.heap.size + 1) W8.heap.size).setCell (p := ⟨w.heap.size, 0, none⟩) (.inl (by show w.heap.size < w.heap.size + 1; omega)) (.string f.rel)).setCell (p := ⟨w.heap.size, 1, none⟩) (.inl (by show w.heap.size < w.heap.size + 1; omega)) (.slice (some ⟨gg, 0, none⟩) (f.args.length + 1) cp)) b h1 h2), by omega⟩
      generalize ((W8.setCell ⟨w.heap.size, 0, none⟩ (.string f.rel)).setCell ⟨w.heap.size, 1, none⟩ (.slice (some ⟨gg, 0, none⟩) (f.args.length + 1) cp)) = W9 at *
      have e0 := hK9.cell0; have e1 := hK9.cell1
      refine bodyPost_ret (v := .agg #[.string f.rel, (.slice (some ⟨gg, 0, none⟩) (f.args.length + 1) cp)]) (by simp [results, Try.results61, go_sem, e0, e1]) rfl ?_
      exact ⟨_, rfl, ⟨f.rel, (f.args ++ [s])⟩, ⟨⟨[_, _], rfl, _, rfl, hT9.1.mono (by omega) hT9.2⟩, Nat.le_refl _⟩, ⟨HR.out, (by intro t ht; rcases List.mem_append.1 ht with ht | ht; exact HA.out t ht; simp at ht; subst ht; exact HS.out), by show (f.args ++ [s]).length ≤ 5; simp; omega⟩, hD9⟩
  · go_wp2_with fail
    have HB := Lib.hid (TX.row_ 9 w2 anyFL (by decide))
    have hal : Up w2 (w2.alloc (.cells (anyFL.map Value.string).toArray 9)) := Up.al1 _ _
    refine (cBelow (n := 5) (HD.out.1.up hal) (by decide) (by decide)).mono ?_
    rintro e w3 ⟨j, rfl, hj, hd⟩
    have hdr := Dr.pre hal hd
    have HD3 := Lib.hid (HD.out.tr hdr)
    have KR3 := Lib.hid (KR.out.dr_ hdr (by omega))
    have HK3 := Lib.hid (HK.out.dr_ hdr (by omega))
    have HB3 := Lib.hid (HB.out.dr_ hd (.inr (HD.out.1.lt)))
    have hps3 := hdr.2.size
    have hps4 := hd.2.size
    have hbz : (w2.alloc (.cells (anyFL.map Value.string).toArray 9)).heap.size = w2.heap.size + 1 := by simp
    have hlb : anyFL.length = 4 := rfl
    have i2 : (0 : Int) ≤ (j : Int) := by omega
    have i3 : (j : Int) ≤ 4 := by omega
    clear hd hdr hal HD KR HK HT HB
    have k1 : w3.cell? ⟨p, 1, none⟩ = some (.slice oa f.args.length oc) := HK3.out.cell 1
    have f1 := HK3.out.frozen 1
    generalize hq : w2.heap.size = q at *
    have HKx := Lib.hid (show Blk (w3.setCell ⟨p, 1, none⟩ (.slice (some ⟨q, 0, none⟩) j 4)) p 35 #[.string f.rel, (.slice (some ⟨q, 0, none⟩) j 4)] by have := HK3.out.set_ 1 (.slice (some ⟨q, 0, none⟩) j 4); simpa using this)
    have KRx : Hid (Blk (w3.setCell ⟨p, 1, none⟩ (.slice (some ⟨q, 0, none⟩) j 4)) w.heap.size 35 #[.string ⟨#[]⟩, .slice none 0 0]) := KR3.out.far (p := ⟨p, 1, none⟩) (by show w.heap.size ≠ p; omega) _
    have HDx : Hid (Dr 83 g w (w3.setCell ⟨p, 1, none⟩ (.slice (some ⟨q, 0, none⟩) j 4))) := HD3.out.own ((Below.refl w.heap.size w3).setCell (p := ⟨p, 1, none⟩) (by show w.heap.size ≤ p; omega) _) hgl
    have hzx : (w3.setCell ⟨p, 1, none⟩ (.slice (some ⟨q, 0, none⟩) j 4)).heap.size = w3.heap.size := by simp [World.setCell]
    have HTz : Hid (TX w3 q (q + 1) (.slice (some ⟨q, 0, none⟩) j 4) (anyFL.take j)) := by have := (HB3.out.1.take_ (k := j) (by rw [hlb]; omega)); rw [hbz] at this; exact this
    have HTy : Hid (TX (w3.setCell ⟨p, 1, none⟩ (.slice (some ⟨q, 0, none⟩) j 4)) q (q + 1) (.slice (some ⟨q, 0, none⟩) j 4) (anyFL.take j)) := HTz.out.keep (fun b h1 h2 => ((Stays.refl w3 q (q + 1)).setCell (p := ⟨p, 1, none⟩) (.inl hps) (.slice (some ⟨q, 0, none⟩) j 4)) b h1 h2)
    have HTx : Hid (Ob TX (w3.setCell ⟨p, 1, none⟩ (.slice (some ⟨q, 0, none⟩) j 4)) (w.heap.size + 1) (w3.setCell ⟨p, 1, none⟩ (.slice (some ⟨q, 0, none⟩) j 4)).heap.size (.slice (some ⟨q, 0, none⟩) j 4) (anyFL.take j)) := ⟨HTy.out.mono (by omega) (by omega), Nat.le_refl _⟩
    have hlj : (anyFL.take j).length = j := by rw [List.length_take, hlb]; omega
    have HM : Hid (∀ t ∈ anyFL.take j, okW t = true) := fun t ht => okW_in anyFL_ok (List.mem_of_mem_take ht)
    clear HTy HTz HB3
    go_upto_region 9 with fail
    clear k1 f1
    generalize (w3.setCell ⟨p, 1, none⟩ (.slice (some ⟨q, 0, none⟩) j 4)) = W8 at *
    have g0 : W8.cell? ⟨p, 0, none⟩ = some (.string f.rel) := HKx.out.cell 0
    have g1 : W8.cell? ⟨p, 1, none⟩ = some (.slice (some ⟨q, 0, none⟩) j 4) := HKx.out.cell 1
    have r0 : W8.cell? ⟨w.heap.size, 0, none⟩ = some (.string ⟨#[]⟩) := KRx.out.cell 0
    have r1 : W8.cell? ⟨w.heap.size, 1, none⟩ = some (.slice none 0 0) := KRx.out.cell 1
    have q0 := KRx.out.frozen 0
    have q1 := KRx.out.frozen 1
    go_wp2
    clear g0 g1 r0 r1 q0 q1
    have hK9 : Blk ((W8.setCell ⟨w.heap.size, 0, none⟩ (.string f.rel)).setCell ⟨w.heap.size, 1, none⟩ (.slice (some ⟨q, 0, none⟩) j 4)) w.heap.size 35 #[.string f.rel, (.slice (some ⟨q, 0, none⟩) j 4)] := by have := (KRx.out.set_ 0 (.string f.rel)).set_ 1 (.slice (some ⟨q, 0, none⟩) j 4); simpa using this
    have hD9 : Dr 83 g w ((W8.setCell ⟨w.heap.size, 0, none⟩ (.string f.rel)).setCell ⟨w.heap.size, 1, none⟩ (.slice (some ⟨q, 0, none⟩) j 4)) := HDx.out.own (((Below.refl w.heap.size W8).setCell (p := ⟨w.heap.size, 0, none⟩) (Nat.le_refl _) _).setCell (p := ⟨w.heap.size, 1, none⟩) (Nat.le_refl _) _) hgl
    have hz9 : ((W8.setCell ⟨w.heap.size, 0, none⟩ (.string f.rel)).setCell ⟨w.heap.size, 1, none⟩ (.slice (some ⟨q, 0, none⟩) j 4)).heap.size = W8.heap.size := by simp [World.setCell]
    have hT9 : Ob TX ((W8.setCell ⟨w.heap.size, 0, none⟩ (.string f.rel)).setCell ⟨w.heap.size, 1, none⟩ (.slice (some ⟨q, 0, none⟩) j 4)) (w.heap.size + 1) W8.heap.size (.slice (some ⟨q, 0, none⟩) j 4) (anyFL.take j) := ⟨HTx.out.1.keep (fun b h1 h2 => (((Stays.refl W8 (w.heap.size + 1) W8.heap.size).setCell (p := ⟨w.heap.size, 0, none⟩) (.inl (by show w.heap.size < w.heap.size + 1; omega)) (.string f.rel)).setCell (p := ⟨w.heap.size, 1, none⟩) (.inl (by show w.heap.size < w.heap.size + 1; omega)) (.slice (some ⟨q, 0, none⟩) j 4)) b h1 h2), by omega⟩
    generalize ((W8.setCell ⟨w.heap.size, 0, none⟩ (.string f.rel)).setCell ⟨w.heap.size, 1, none⟩ (.slice (some ⟨q, 0, none⟩) j 4)) = W9 at *
    have e0 := hK9.cell0; have e1 := hK9.cell1
    refine bodyPost_ret (v := .agg #[.string f.rel, (.slice (some ⟨q, 0, none⟩) j 4)]) (by simp [results, Try.results61, go_sem, e0, e1]) rfl ?_
    exact ⟨_, rfl, ⟨f.rel, (anyFL.take j)⟩, ⟨⟨[_, _], rfl, _, rfl, hT9.1.mono (by omega) hT9.2⟩, Nat.le_refl _⟩, ⟨HR.out, HM.out, by show (anyFL.take j).length ≤ 5; omega⟩, hD9⟩
  · have j0 : ((k : Int) == 0) = false := by rw [beq_eq_false_iff_ne]; omega
    have j1 : ((k : Int) == 1) = false := by rw [beq_eq_false_iff_ne]; omega
    have j2 : ((k : Int) == 2) = false := by rw [beq_eq_false_iff_ne]; omega
    have HKx := HK; have KRx := KR; have HDx := HD
    have HTx : Hid (Ob TX w2 (w.heap.size + 1) w2.heap.size (.slice oa f.args.length oc) f.args) := ⟨HT.out.1.tx.mono (by omega) (by omega), Nat.le_refl _⟩
    have g0 : w2.cell? ⟨p, 0, none⟩ = some (.string f.rel) := HKx.out.cell 0
    have g1 : w2.cell? ⟨p, 1, none⟩ = some (.slice oa f.args.length oc) := HKx.out.cell 1
    have r0 : w2.cell? ⟨w.heap.size, 0, none⟩ = some (.string ⟨#[]⟩) := KRx.out.cell 0
    have r1 : w2.cell? ⟨w.heap.size, 1, none⟩ = some (.slice none 0 0) := KRx.out.cell 1
    have q0 := KRx.out.frozen 0
    have q1 := KRx.out.frozen 1
    go_wp2
    clear g0 g1 r0 r1 q0 q1
    have hK9 : Blk ((w2.setCell ⟨w.heap.size, 0, none⟩ (.string f.rel)).setCell ⟨w.heap.size, 1, none⟩ (.slice oa f.args.length oc)) w.heap.size 35 #[.string f.rel, (.slice oa f.args.length oc)] := by have := (KRx.out.set_ 0 (.string f.rel)).set_ 1 (.slice oa f.args.length oc); simpa using this
    have hD9 : Dr 83 g w ((w2.setCell ⟨w.heap.size, 0, none⟩ (.string f.rel)).setCell ⟨w.heap.size, 1, none⟩ (.slice oa f.args.length oc)) := HDx.out.own (((Below.refl w.heap.size w2).setCell (p := ⟨w.heap.size, 0, none⟩) (Nat.le_refl _) _).setCell (p := ⟨w.heap.size, 1, none⟩) (Nat.le_refl _) _) hgl
    have hz9 : ((w2.setCell ⟨w.heap.size, 0, none⟩ (.string f.rel)).setCell ⟨w.heap.size, 1, none⟩ (.slice oa f.args.length oc)).heap.size = w2.heap.size := by simp [World.setCell]
    have hT9 : Ob TX ((w2.setCell ⟨w.heap.size, 0, none⟩ (.string f.rel)).setCell ⟨w.heap.size, 1, none⟩ (.slice oa f.args.length oc)) (w.heap.size + 1) w2.heap.size (.slice oa f.args.length oc) f.args := ⟨HTx.out.1.keep (fun b h1 h2 => (((Stays.refl w2 (w.heap.size + 1) w2.heap.size).setCell (p := ⟨w.heap.size, 0, none⟩) (.inl (by show w.heap.size < w.heap.size + 1; omega)) (.string f.rel)).setCell (p := ⟨w.heap.size, 1, none⟩) (.inl (by show w.heap.size < w.heap.size + 1; omega)) (.slice oa f.args.length oc)) b h1 h2), by omega⟩
    generalize ((w2.setCell ⟨w.heap.size, 0, none⟩ (.string f.rel)).setCell ⟨w.heap.size, 1, none⟩ (.slice oa f.args.length oc)) = W9 at *
    have e0 := hK9.cell0; have e1 := hK9.cell1
    refine bodyPost_ret (v := .agg #[.string f.rel, (.slice oa f.args.length oc)]) (by simp [results, Try.results61, go_sem, e0, e1]) rfl ?_
    exact ⟨_, rfl, ⟨f.rel, f.args⟩, ⟨⟨[_, _], rfl, _, rfl, hT9.1.mono (by omega) hT9.2⟩, Nat.le_refl _⟩, ⟨HR.out, HA.out, by show f.args.length ≤ 5; omega⟩, hD9⟩
def anyPL : List ByteArray := [⟨#[63, 120]⟩, ⟨#[63, 120]⟩, ⟨#[63, 121]⟩, ⟨#[63, 120]⟩]
theorem anyPL_ok : anyPL.all okW = true := by decide
set_option maxHeartbeats 4000000 in
set_option maxRecDepth 100000 in
theorem cAnyP {g : Nat} {w : World} (hc : Cur 83 w g) :
    Calls Try.prog 41 #[.pointer (some ⟨g, 0, none⟩)] w fun e w' => ∃ v', e = .returned v' ∧ ∃ f, Ob AF w' w.heap.size w'.heap.size v' f ∧ okFW f ∧ Dr 83 g w w' := by
  have hgl := hc.lt
  obtain ⟨i0, hi0, hz0, hz1, hz2⟩ := info_parts Try.infoStr
  have hb0 : Up w (w.alloc (.cells #[.string ⟨#[]⟩, .slice none 0 0] 27)) := Up.al1 _ _
  have KR := Lib.hid (Blk.new w 27 #[.string ⟨#[]⟩, .slice none 0 0])
  have HC := Lib.hid (hc.up hb0)
  have hws : (w.alloc (.cells #[.string ⟨#[]⟩, .slice none 0 0] 27)).heap.size = w.heap.size + 1 := by simp
  have HB0 := Lib.hid hb0
  clear hc hb0
  go_enter Try.func41, Try.ntmps41
  go_wp2_with fail
  generalize (w.alloc (.cells #[.string ⟨#[]⟩, .slice none 0 0] 27)) = W at *
  refine (cDrawP HC.out).mono ?_
  rintro e w1 ⟨v1, rfl, f, ho, hf, hfl, hd⟩
  obtain ⟨av, rfl, hto⟩ := ho.1
  obtain ⟨oa, oc, rfl⟩ := hto.tx.form
  have hsz1 := hd.2.size
  have HR : Hid (okW f.rel = true) := hf.1
  have HA : Hid (∀ s ∈ f.args, okW s = true) := hf.2.1
  have KR1 := Lib.hid ((KR.out.dr_ hd (by omega)).alloc (.cells #[.string f.rel, .slice oa f.args.length oc] 27))
  have HD1 := Lib.hid ((Dr.pre HB0.out hd).up (Up.al1 w1 (.cells #[.string f.rel, .slice oa f.args.length oc] 27)))
  have HK1 := Lib.hid (Blk.new w1 27 #[.string f.rel, .slice oa f.args.length oc])
  have HT1 := Lib.hid (ho.1 |> fun _ => (show Ob (TO 9) w1 W.heap.size w1.heap.size (.slice oa f.args.length oc) f.args from ⟨hto, Nat.le_refl _⟩).up (Up.al1 w1 (.cells #[.string f.rel, .slice oa f.args.length oc] 27)))
  have hz1w : (w1.alloc (.cells #[.string f.rel, .slice oa f.args.length oc] 27)).heap.size = w1.heap.size + 1 := by simp
  clear ho hf hto hd KR HC HB0
  go_wp2_with fail
  generalize (w1.alloc (.cells #[.string f.rel, .slice oa f.args.length oc] 27)) = W2 at *
  generalize hp : w1.heap.size = p at *
  have hwp : w.heap.size < p := by omega
  have hzW : W.heap.size = w.heap.size + 1 := hws
  refine (cBelow (n := 10) HD1.out.1 (by decide) (by decide)).mono ?_
  rintro e w2 ⟨k, rfl, hk, hd⟩
  have HD := Lib.hid (HD1.out.tr hd)
  have KR := Lib.hid (KR1.out.dr_ hd (by omega))
  have HK := Lib.hid (HK1.out.dr_ hd (by omega))
  have HT := Lib.hid (HT1.out.dr_ hd (.inr (by omega)))
  have hps : p < w2.heap.size := by have := hd.2.size; omega
  have i1 : (0 : Int) ≤ (k : Int) := by omega
  clear hd HD1 KR1 HK1 HT1 hz1w
  have hcs : k = 0 ∨ k = 1 ∨ k = 2 ∨ 3 ≤ k := by omega
  rcases hcs with rfl | rfl | rfl | hk3
  · go_wp2_with fail
    refine (cWord HD.out.1).mono ?_
    rintro e w3 ⟨s, rfl, hs, hd⟩
    have HS := Lib.hid hs
    have HD3 := Lib.hid (HD.out.tr hd)
    have KR3 := Lib.hid (KR.out.dr_ hd (by omega))
    have HK3 := Lib.hid (HK.out.dr_ hd (by omega))
    have HT3 := Lib.hid (HT.out.dr_ hd (.inr (by omega)))
    have hps3 := hd.2.size
    clear hs hd HD KR HK HT
    have k0 : w3.cell? ⟨p, 0, none⟩ = some (.string f.rel) := HK3.out.cell 0
    have f0 := HK3.out.frozen 0
    have HKx := Lib.hid (show Blk (w3.setCell ⟨p, 0, none⟩ (.string s)) p 27 #[.string s, (.slice oa f.args.length oc)] by have := HK3.out.set_ 0 (.string s); simpa using this)
    have KRx : Hid (Blk (w3.setCell ⟨p, 0, none⟩ (.string s)) w.heap.size 27 #[.string ⟨#[]⟩, .slice none 0 0]) := KR3.out.far (p := ⟨p, 0, none⟩) (by show w.heap.size ≠ p; omega) _
    have HDx : Hid (Dr 83 g w (w3.setCell ⟨p, 0, none⟩ (.string s))) := HD3.out.own ((Below.refl w.heap.size w3).setCell (p := ⟨p, 0, none⟩) (by show w.heap.size ≤ p; omega) _) hgl
    have hzx : (w3.setCell ⟨p, 0, none⟩ (.string s)).heap.size = w3.heap.size := by simp [World.setCell]
    have HTy : Hid (TX (w3.setCell ⟨p, 0, none⟩ (.string s)) W.heap.size p (.slice oa f.args.length oc) f.args) := HT3.out.1.tx.keep (fun b h1 h2 => ((Stays.refl w3 W.heap.size p).setCell (p := ⟨p, 0, none⟩) (.inr (Nat.le_refl p)) (.string s)) b h1 h2)
    have HTx : Hid (Ob TX (w3.setCell ⟨p, 0, none⟩ (.string s)) (w.heap.size + 1) (w3.setCell ⟨p, 0, none⟩ (.string s)).heap.size (.slice oa f.args.length oc) f.args) := ⟨HTy.out.mono (by omega) (by omega), Nat.le_refl _⟩
    clear HTy
    go_upto_region 9 with fail
    clear k0 f0
    generalize (w3.setCell ⟨p, 0, none⟩ (.string s)) = W8 at *
    have g0 : W8.cell? ⟨p, 0, none⟩ = some (.string s) := HKx.out.cell 0
    have g1 : W8.cell? ⟨p, 1, none⟩ = some (.slice oa f.args.length oc) := HKx.out.cell 1
    have r0 : W8.cell? ⟨w.heap.size, 0, none⟩ = some (.string ⟨#[]⟩) := KRx.out.cell 0
    have r1 : W8.cell? ⟨w.heap.size, 1, none⟩ = some (.slice none 0 0) := KRx.out.cell 1
    have q0 := KRx.out.frozen 0
    have q1 := KRx.out.frozen 1
    go_wp2
    clear g0 g1 r0 r1 q0 q1
    have hK9 : Blk ((W8.setCell ⟨w.heap.size, 0, none⟩ (.string s)).setCell ⟨w.heap.size, 1, none⟩ (.slice oa f.args.length oc)) w.heap.size 27 #[.string s, (.slice oa f.args.length oc)] := by have := (KRx.out.set_ 0 (.string s)).set_ 1 (.slice oa f.args.length oc); simpa using this
    have hD9 : Dr 83 g w ((W8.setCell ⟨w.heap.size, 0, none⟩ (.string s)).setCell ⟨w.heap.size, 1, none⟩ (.slice oa f.args.length oc)) := HDx.out.own (((Below.refl w.heap.size W8).setCell (p := ⟨w.heap.size, 0, none⟩) (Nat.le_refl _) _).setCell (p := ⟨w.heap.size, 1, none⟩) (Nat.le_refl _) _) hgl
    have hz9 : ((W8.setCell ⟨w.heap.size, 0, none⟩ (.string s)).setCell ⟨w.heap.size, 1, none⟩ (.slice oa f.args.length oc)).heap.size = W8.heap.size := by simp [World.setCell]
    have hT9 : Ob TX ((W8.setCell ⟨w.heap.size, 0, none⟩ (.string s)).setCell ⟨w.heap.size, 1, none⟩ (.slice oa f.args.length oc)) (w.heap.size + 1) W8.heap.size (.slice oa f.args.length oc) f.args := ⟨HTx.out.1.keep (fun b h1 h2 => (((Stays.refl W8 (w.heap.size + 1) W8.heap.size).setCell (p := ⟨w.heap.size, 0, none⟩) (.inl (by show w.heap.size < w.heap.size + 1; omega)) (.string s)).setCell (p := ⟨w.heap.size, 1, none⟩) (.inl (by show w.heap.size < w.heap.size + 1; omega)) (.slice oa f.args.length oc)) b h1 h2), by omega⟩
    generalize ((W8.setCell ⟨w.heap.size, 0, none⟩ (.string s)).setCell ⟨w.heap.size, 1, none⟩ (.slice oa f.args.length oc)) = W9 at *
    have e0 := hK9.cell0; have e1 := hK9.cell1
    refine bodyPost_ret (v := .agg #[.string s, (.slice oa f.args.length oc)]) (by simp [results, Try.results41, go_sem, e0, e1]) rfl ?_
    exact ⟨_, rfl, ⟨s, f.args⟩, ⟨⟨[_, _], rfl, _, rfl, hT9.1.mono (by omega) hT9.2⟩, Nat.le_refl _⟩, ⟨HS.out, HA.out, by show f.args.length ≤ 5; omega⟩, hD9⟩
  · generalize hav : ((.slice oa f.args.length oc) : Value) = av at *
    have k1 : w2.cell? ⟨p, 1, none⟩ = some av := HK.out.cell 1
    have hdr0 : Up w2 w2.drew := (Up.rf _).dr
    go_wp2_with fail
    have k1d : w2.drew.cell? ⟨p, 1, none⟩ = some av := (HK.out.up hdr0).cell 1
    have HCr := Lib.hid (HD.out.1.up hdr0)
    go_region_law
      (first
        | (refine step_append_lies _ (by rfl) _ _ _ (by rfl) W.heap.size 9 i0 _ 1 16 Try.underlying22 hi0 hz0 hz1 hz2 ?_ ?_ av f.args.length (f.args.map Value.string) ?_ (HT5.out.1.1.alloc _) ⟨w5.heap.size, 0, none⟩ 1 1 [.string s] ?_ ?_ ?_ ?_ ?_ ?_ ?_ ?_ (w5.heap.size + 1) ?_ ?_
           · rfl
           · omega
           · rfl
           · rfl
           · rfl
           · exact (news1 (Blk.new w5 9 #[.string s]))
           · exact (one1 rfl)
           · omega
           · unfold maxLen; omega
           · omega
           · simp; omega
           · simp
           intro gg cp w6 hown' hgrow hat hltg
           have hrow : ∀ b, (av : Value).ownBlock = some b → W.heap.size ≤ b ∧ b < p := (fun b hb => ⟨(HT5.out.1.1.lt b hb).1, HT5.out.1.2 b hb⟩)
           have hnp : ∀ b, b = p ∨ b ≤ w.heap.size → some b ≠ (av : Value).ownBlock := (fun b hb h => by have := hrow b h.symm; omega)
           have hal : Up w5 (w5.alloc (.cells #[.string s] 9)) := Up.al1 _ _
           have HK6 : Hid (Blk w6 p 27 #[.string f.rel, av]) := ((hgrow.block p (HK5.out.up hal).lt (hnp p (.inl rfl))).trans (HK5.out.up hal))
           have KR6 : Hid (Blk w6 w.heap.size 27 #[.string ⟨#[]⟩, .slice none 0 0]) := ((hgrow.block w.heap.size (KR5.out.up hal).lt (hnp _ (.inr (Nat.le_refl _)))).trans (KR5.out.up hal))
           have HT6 : Hid (TO 9 w6 W.heap.size w6.heap.size (.slice (some ⟨gg, 0, none⟩) (f.args.length + 1) cp) (f.args ++ [s])) := TO.snoc hown'
           have HD6 : Hid (Dr 83 g w w6) := HD5.out.own (((Below.refl w.heap.size w5).alloc (by omega) _).grown hgrow (by simp; omega) (fun b hb => by have := hrow b hb; omega)) hgl
           have hs6 : w5.heap.size + 1 ≤ w6.heap.size := (by have := hgrow.size; simpa using this)
           have hgp : gg < p ∨ p < gg := (by rcases hat with h | h; exact .inl (hrow gg h).2; exact .inr (by omega))
           have hgw : w.heap.size < gg := (by rcases hat with h | h; (have := hrow gg h; omega); omega)
           have k1 : w6.cell? ⟨p, 1, none⟩ = some av := HK6.out.cell 1
           have f1 := HK6.out.frozen 1
           clear hown' hgrow hat hrow hnp hal)
        | (go_simp; go_at_call 74; (with_reducible refine (cWord HCr.out).mono ?_); rintro e w5 ⟨s, rfl, hs, hd5⟩; have hdr := Dr.pre hdr0 hd5; have HS := Lib.hid hs; have HK5 := Lib.hid (HK.out.dr_ hdr (by omega)); have KR5 := Lib.hid (KR.out.dr_ hdr (by omega)); have HT5 := Lib.hid (HT.out.dr_ hdr (.inr (by omega))); have HD5 := Lib.hid (HD.out.tr hdr); have h5s : w2.heap.size ≤ w5.heap.size := hdr.2.size; have k1 : w5.cell? ⟨p, 1, none⟩ = some av := HK5.out.cell 1; have k1a : (w5.alloc (.cells #[.string s] 9)).cell? ⟨p, 1, none⟩ = some av := (HK5.out.alloc _).cell 1; clear hd5 hdr hs))
    all_goals
      have HKx := Lib.hid (show Blk (w6.setCell ⟨p, 1, none⟩ (.slice (some ⟨gg, 0, none⟩) (f.args.length + 1) cp)) p 27 #[.string f.rel, (.slice (some ⟨gg, 0, none⟩) (f.args.length + 1) cp)] by have := HK6.out.set_ 1 (.slice (some ⟨gg, 0, none⟩) (f.args.length + 1) cp); simpa using this)
      have KRx : Hid (Blk (w6.setCell ⟨p, 1, none⟩ (.slice (some ⟨gg, 0, none⟩) (f.args.length + 1) cp)) w.heap.size 27 #[.string ⟨#[]⟩, .slice none 0 0]) := KR6.out.far (p := ⟨p, 1, none⟩) (by show w.heap.size ≠ p; omega) _
      have HDx : Hid (Dr 83 g w (w6.setCell ⟨p, 1, none⟩ (.slice (some ⟨gg, 0, none⟩) (f.args.length + 1) cp))) := HD6.out.own ((Below.refl w.heap.size w6).setCell (p := ⟨p, 1, none⟩) (by show w.heap.size ≤ p; omega) _) hgl
      have hzx : (w6.setCell ⟨p, 1, none⟩ (.slice (some ⟨gg, 0, none⟩) (f.args.length + 1) cp)).heap.size = w6.heap.size := by simp [World.setCell]
      have HTy : Hid (TX (w6.setCell ⟨p, 1, none⟩ (.slice (some ⟨gg, 0, none⟩) (f.args.length + 1) cp)) gg (gg + 1) (.slice (some ⟨gg, 0, none⟩) (f.args.length + 1) cp) (f.args ++ [s])) := HT6.out.narrow.keep (fun b h1 h2 => ((Stays.refl w6 gg (gg + 1)).setCell (p := ⟨p, 1, none⟩) (by rcases hgp with h | h; exact .inr h; exact .inl h) (.slice (some ⟨gg, 0, none⟩) (f.args.length + 1) cp)) b h1 h2)
      have HTx : Hid (Ob TX (w6.setCell ⟨p, 1, none⟩ (.slice (some ⟨gg, 0, none⟩) (f.args.length + 1) cp)) (w.heap.size + 1) (w6.setCell ⟨p, 1, none⟩ (.slice (some ⟨gg, 0, none⟩) (f.args.length + 1) cp)).heap.size (.slice (some ⟨gg, 0, none⟩) (f.args.length + 1) cp) (f.args ++ [s])) := ⟨HTy.out.mono (by omega) (by omega), Nat.le_refl _⟩
      clear HTy
      go_upto_region 9 with fail
      clear k1 f1
      generalize (w6.setCell ⟨p, 1, none⟩ (.slice (some ⟨gg, 0, none⟩) (f.args.length + 1) cp)) = W8 at *
      have g0 : W8.cell? ⟨p, 0, none⟩ = some (.string f.rel) := HKx.out.cell 0
      have g1 : W8.cell? ⟨p, 1, none⟩ = some (.slice (some ⟨gg, 0, none⟩) (f.args.length + 1) cp) := HKx.out.cell 1
      have r0 : W8.cell? ⟨w.heap.size, 0, none⟩ = some (.string ⟨#[]⟩) := KRx.out.cell 0
      have r1 : W8.cell? ⟨w.heap.size, 1, none⟩ = some (.slice none 0 0) := KRx.out.cell 1
      have q0 := KRx.out.frozen 0
      have q1 := KRx.out.frozen 1
      go_wp2
      clear g0 g1 r0 r1 q0 q1
      have hK9 : Blk ((W8.setCell ⟨w.heap.size, 0, none⟩ (.string f.rel)).setCell ⟨w.heap.size, 1, none⟩ (.slice (some ⟨gg, 0, none⟩) (f.args.length + 1) cp)) w.heap.size 27 #[.string f.rel, (.slice (some ⟨gg, 0, none⟩) (f.args.length + 1) cp)] := by have := (KRx.out.set_ 0 (.string f.rel)).set_ 1 (.slice (some ⟨gg, 0, none⟩) (f.args.length + 1) cp); simpa using this
      have hD9 : Dr 83 g w ((W8.setCell ⟨w.heap.size, 0, none⟩ (.string f.rel)).setCell ⟨w.heap.size, 1, none⟩ (.slice (some ⟨gg, 0, none⟩) (f.args.length + 1) cp)) := HDx.out.own (((Below.refl w.heap.size W8).setCell (p := ⟨w.heap.size, 0, none⟩) (Nat.le_refl _) _).setCell (p := ⟨w.heap.size, 1, none⟩) (Nat.le_refl _) _) hgl
      have hz9 : ((W8.setCell ⟨w.heap.size, 0, none⟩ (.string f.rel)).setCell ⟨w.heap.size, 1, none⟩ (.slice (some ⟨gg, 0, none⟩) (f.args.length + 1) cp)).heap.size = W8.heap.size := by simp [World.setCell]
      have hT9 : Ob TX ((W8.setCell ⟨w.heap.size, 0, none⟩ (.string f.rel)).setCell ⟨w.heap.size, 1, none⟩ (.slice (some ⟨gg, 0, none⟩) (f.args.length + 1) cp)) (w.heap.size + 1) W8.heap.size (.slice (some ⟨gg, 0, none⟩) (f.args.length + 1) cp) (f.args ++ [s]) := ⟨HTx.out.1.keep (fun b h1 h2 => (((Stays.refl W8 (w.heap.size + 1) W8.heap.size).setCell (p := ⟨w.heap.size, 0, none⟩) (.inl (by show w.heap.size < w.heap.size + 1; omega)) (.string f.rel)).setCell (p := ⟨w.heap.size, 1, none⟩) (.inl (by show w.heap.size < w.heap.size + 1; omega)) (.slice (some ⟨gg, 0, none⟩) (f.args.length + 1) cp)) b h1 h2), by omega⟩
      generalize ((W8.setCell ⟨w.heap.size, 0, none⟩ (.string f.rel)).setCell ⟨w.heap.size, 1, none⟩ (.slice (some ⟨gg, 0, none⟩) (f.args.length + 1) cp)) = W9 at *
      have e0 := hK9.cell0; have e1 := hK9.cell1
      refine bodyPost_ret (v := .agg #[.string f.rel, (.slice (some ⟨gg, 0, none⟩) (f.args.length + 1) cp)]) (by simp [results, Try.results41, go_sem, e0, e1]) rfl ?_
      exact ⟨_, rfl, ⟨f.rel, (f.args ++ [s])⟩, ⟨⟨[_, _], rfl, _, rfl, hT9.1.mono (by omega) hT9.2⟩, Nat.le_refl _⟩, ⟨HR.out, (by intro t ht; rcases List.mem_append.1 ht with ht | ht; exact HA.out t ht; simp at ht; subst ht; exact HS.out), by show (f.args ++ [s]).length ≤ 5; simp; omega⟩, hD9⟩
  · go_wp2_with fail
    have HB := Lib.hid (TX.row_ 9 w2 anyPL (by decide))
    have hal : Up w2 (w2.alloc (.cells (anyPL.map Value.string).toArray 9)) := Up.al1 _ _
    refine (cBelow (n := 5) (HD.out.1.up hal) (by decide) (by decide)).mono ?_
    rintro e w3 ⟨j, rfl, hj, hd⟩
    have hdr := Dr.pre hal hd
    have HD3 := Lib.hid (HD.out.tr hdr)
    have KR3 := Lib.hid (KR.out.dr_ hdr (by omega))
    have HK3 := Lib.hid (HK.out.dr_ hdr (by omega))
    have HB3 := Lib.hid (HB.out.dr_ hd (.inr (HD.out.1.lt)))
    have hps3 := hdr.2.size
    have hps4 := hd.2.size
    have hbz : (w2.alloc (.cells (anyPL.map Value.string).toArray 9)).heap.size = w2.heap.size + 1 := by simp
    have hlb : anyPL.length = 4 := rfl
    have i2 : (0 : Int) ≤ (j : Int) := by omega
    have i3 : (j : Int) ≤ 4 := by omega
    clear hd hdr hal HD KR HK HT HB
    have k1 : w3.cell? ⟨p, 1, none⟩ = some (.slice oa f.args.length oc) := HK3.out.cell 1
    have f1 := HK3.out.frozen 1
    generalize hq : w2.heap.size = q at *
    have HKx := Lib.hid (show Blk (w3.setCell ⟨p, 1, none⟩ (.slice (some ⟨q, 0, none⟩) j 4)) p 27 #[.string f.rel, (.slice (some ⟨q, 0, none⟩) j 4)] by have := HK3.out.set_ 1 (.slice (some ⟨q, 0, none⟩) j 4); simpa using this)
    have KRx : Hid (Blk (w3.setCell ⟨p, 1, none⟩ (.slice (some ⟨q, 0, none⟩) j 4)) w.heap.size 27 #[.string ⟨#[]⟩, .slice none 0 0]) := KR3.out.far (p := ⟨p, 1, none⟩) (by show w.heap.size ≠ p; omega) _
    have HDx : Hid (Dr 83 g w (w3.setCell ⟨p, 1, none⟩ (.slice (some ⟨q, 0, none⟩) j 4))) := HD3.out.own ((Below.refl w.heap.size w3).setCell (p := ⟨p, 1, none⟩) (by show w.heap.size ≤ p; omega) _) hgl
    have hzx : (w3.setCell ⟨p, 1, none⟩ (.slice (some ⟨q, 0, none⟩) j 4)).heap.size = w3.heap.size := by simp [World.setCell]
    have HTz : Hid (TX w3 q (q + 1) (.slice (some ⟨q, 0, none⟩) j 4) (anyPL.take j)) := by have := (HB3.out.1.take_ (k := j) (by rw [hlb]; omega)); rw [hbz] at this; exact this
    have HTy : Hid (TX (w3.setCell ⟨p, 1, none⟩ (.slice (some ⟨q, 0, none⟩) j 4)) q (q + 1) (.slice (some ⟨q, 0, none⟩) j 4) (anyPL.take j)) := HTz.out.keep (fun b h1 h2 => ((Stays.refl w3 q (q + 1)).setCell (p := ⟨p, 1, none⟩) (.inl hps) (.slice (some ⟨q, 0, none⟩) j 4)) b h1 h2)
    have HTx : Hid (Ob TX (w3.setCell ⟨p, 1, none⟩ (.slice (some ⟨q, 0, none⟩) j 4)) (w.heap.size + 1) (w3.setCell ⟨p, 1, none⟩ (.slice (some ⟨q, 0, none⟩) j 4)).heap.size (.slice (some ⟨q, 0, none⟩) j 4) (anyPL.take j)) := ⟨HTy.out.mono (by omega) (by omega), Nat.le_refl _⟩
    have hlj : (anyPL.take j).length = j := by rw [List.length_take, hlb]; omega
    have HM : Hid (∀ t ∈ anyPL.take j, okW t = true) := fun t ht => okW_in anyPL_ok (List.mem_of_mem_take ht)
    clear HTy HTz HB3
    go_upto_region 9 with fail
    clear k1 f1
    generalize (w3.setCell ⟨p, 1, none⟩ (.slice (some ⟨q, 0, none⟩) j 4)) = W8 at *
    have g0 : W8.cell? ⟨p, 0, none⟩ = some (.string f.rel) := HKx.out.cell 0
    have g1 : W8.cell? ⟨p, 1, none⟩ = some (.slice (some ⟨q, 0, none⟩) j 4) := HKx.out.cell 1
    have r0 : W8.cell? ⟨w.heap.size, 0, none⟩ = some (.string ⟨#[]⟩) := KRx.out.cell 0
    have r1 : W8.cell? ⟨w.heap.size, 1, none⟩ = some (.slice none 0 0) := KRx.out.cell 1
    have q0 := KRx.out.frozen 0
    have q1 := KRx.out.frozen 1
    go_wp2
    clear g0 g1 r0 r1 q0 q1
    have hK9 : Blk ((W8.setCell ⟨w.heap.size, 0, none⟩ (.string f.rel)).setCell ⟨w.heap.size, 1, none⟩ (.slice (some ⟨q, 0, none⟩) j 4)) w.heap.size 27 #[.string f.rel, (.slice (some ⟨q, 0, none⟩) j 4)] := by have := (KRx.out.set_ 0 (.string f.rel)).set_ 1 (.slice (some ⟨q, 0, none⟩) j 4); simpa using this
    have hD9 : Dr 83 g w ((W8.setCell ⟨w.heap.size, 0, none⟩ (.string f.rel)).setCell ⟨w.heap.size, 1, none⟩ (.slice (some ⟨q, 0, none⟩) j 4)) := HDx.out.own (((Below.refl w.heap.size W8).setCell (p := ⟨w.heap.size, 0, none⟩) (Nat.le_refl _) _).setCell (p := ⟨w.heap.size, 1, none⟩) (Nat.le_refl _) _) hgl
    have hz9 : ((W8.setCell ⟨w.heap.size, 0, none⟩ (.string f.rel)).setCell ⟨w.heap.size, 1, none⟩ (.slice (some ⟨q, 0, none⟩) j 4)).heap.size = W8.heap.size := by simp [World.setCell]
    have hT9 : Ob TX ((W8.setCell ⟨w.heap.size, 0, none⟩ (.string f.rel)).setCell ⟨w.heap.size, 1, none⟩ (.slice (some ⟨q, 0, none⟩) j 4)) (w.heap.size + 1) W8.heap.size (.slice (some ⟨q, 0, none⟩) j 4) (anyPL.take j) := ⟨HTx.out.1.keep (fun b h1 h2 => (((Stays.refl W8 (w.heap.size + 1) W8.heap.size).setCell (p := ⟨w.heap.size, 0, none⟩) (.inl (by show w.heap.size < w.heap.size + 1; omega)) (.string f.rel)).setCell (p := ⟨w.heap.size, 1, none⟩) (.inl (by show w.heap.size < w.heap.size + 1; omega)) (.slice (some ⟨q, 0, none⟩) j 4)) b h1 h2), by omega⟩
    generalize ((W8.setCell ⟨w.heap.size, 0, none⟩ (.string f.rel)).setCell ⟨w.heap.size, 1, none⟩ (.slice (some ⟨q, 0, none⟩) j 4)) = W9 at *
    have e0 := hK9.cell0; have e1 := hK9.cell1
    refine bodyPost_ret (v := .agg #[.string f.rel, (.slice (some ⟨q, 0, none⟩) j 4)]) (by simp [results, Try.results41, go_sem, e0, e1]) rfl ?_
    exact ⟨_, rfl, ⟨f.rel, (anyPL.take j)⟩, ⟨⟨[_, _], rfl, _, rfl, hT9.1.mono (by omega) hT9.2⟩, Nat.le_refl _⟩, ⟨HR.out, HM.out, by show (anyPL.take j).length ≤ 5; omega⟩, hD9⟩
  · have j0 : ((k : Int) == 0) = false := by rw [beq_eq_false_iff_ne]; omega
    have j1 : ((k : Int) == 1) = false := by rw [beq_eq_false_iff_ne]; omega
    have j2 : ((k : Int) == 2) = false := by rw [beq_eq_false_iff_ne]; omega
    have HKx := HK; have KRx := KR; have HDx := HD
    have HTx : Hid (Ob TX w2 (w.heap.size + 1) w2.heap.size (.slice oa f.args.length oc) f.args) := ⟨HT.out.1.tx.mono (by omega) (by omega), Nat.le_refl _⟩
    have g0 : w2.cell? ⟨p, 0, none⟩ = some (.string f.rel) := HKx.out.cell 0
    have g1 : w2.cell? ⟨p, 1, none⟩ = some (.slice oa f.args.length oc) := HKx.out.cell 1
    have r0 : w2.cell? ⟨w.heap.size, 0, none⟩ = some (.string ⟨#[]⟩) := KRx.out.cell 0
    have r1 : w2.cell? ⟨w.heap.size, 1, none⟩ = some (.slice none 0 0) := KRx.out.cell 1
    have q0 := KRx.out.frozen 0
    have q1 := KRx.out.frozen 1
    go_wp2
    clear g0 g1 r0 r1 q0 q1
    have hK9 : Blk ((w2.setCell ⟨w.heap.size, 0, none⟩ (.string f.rel)).setCell ⟨w.heap.size, 1, none⟩ (.slice oa f.args.length oc)) w.heap.size 27 #[.string f.rel, (.slice oa f.args.length oc)] := by have := (KRx.out.set_ 0 (.string f.rel)).set_ 1 (.slice oa f.args.length oc); simpa using this
    have hD9 : Dr 83 g w ((w2.setCell ⟨w.heap.size, 0, none⟩ (.string f.rel)).setCell ⟨w.heap.size, 1, none⟩ (.slice oa f.args.length oc)) := HDx.out.own (((Below.refl w.heap.size w2).setCell (p := ⟨w.heap.size, 0, none⟩) (Nat.le_refl _) _).setCell (p := ⟨w.heap.size, 1, none⟩) (Nat.le_refl _) _) hgl
    have hz9 : ((w2.setCell ⟨w.heap.size, 0, none⟩ (.string f.rel)).setCell ⟨w.heap.size, 1, none⟩ (.slice oa f.args.length oc)).heap.size = w2.heap.size := by simp [World.setCell]
    have hT9 : Ob TX ((w2.setCell ⟨w.heap.size, 0, none⟩ (.string f.rel)).setCell ⟨w.heap.size, 1, none⟩ (.slice oa f.args.length oc)) (w.heap.size + 1) w2.heap.size (.slice oa f.args.length oc) f.args := ⟨HTx.out.1.keep (fun b h1 h2 => (((Stays.refl w2 (w.heap.size + 1) w2.heap.size).setCell (p := ⟨w.heap.size, 0, none⟩) (.inl (by show w.heap.size < w.heap.size + 1; omega)) (.string f.rel)).setCell (p := ⟨w.heap.size, 1, none⟩) (.inl (by show w.heap.size < w.heap.size + 1; omega)) (.slice oa f.args.length oc)) b h1 h2), by omega⟩
    generalize ((w2.setCell ⟨w.heap.size, 0, none⟩ (.string f.rel)).setCell ⟨w.heap.size, 1, none⟩ (.slice oa f.args.length oc)) = W9 at *
    have e0 := hK9.cell0; have e1 := hK9.cell1
    refine bodyPost_ret (v := .agg #[.string f.rel, (.slice oa f.args.length oc)]) (by simp [results, Try.results41, go_sem, e0, e1]) rfl ?_
    exact ⟨_, rfl, ⟨f.rel, f.args⟩, ⟨⟨[_, _], rfl, _, rfl, hT9.1.mono (by omega) hT9.2⟩, Nat.le_refl _⟩, ⟨HR.out, HA.out, by show f.args.length ≤ 5; omega⟩, hD9⟩
end Go.Proofs.Ytpkphijfncbbiaa
