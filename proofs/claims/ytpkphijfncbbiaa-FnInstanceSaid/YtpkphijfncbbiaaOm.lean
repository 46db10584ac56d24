/- A map of texts to texts that is the call's own, as a plain function. -/
import Derived.Maps.Own
import Derived.Maps.StringElems
import Derived.Maps.Views
import Derived.Test.YtpkphijfncbbiaaBase
namespace Go.Proofs.Ytpkphijfncbbiaa
open Go.RowKit
set_option linter.unusedVariables false
def OMat (D : DataW Unit) (s : ByteArray) : Option ByteArray → Prop
  | none => ∀ zd, D.atKey (.string s.data.toList) zd = zd
  | some v => ∀ zd, D.atKey (.string s.data.toList) zd = .lit (.string v.data.toList)
def OM (P : Program) (k e : TypeId) (w : World) (b n : Nat) (m : ByteArray → Option ByteArray) : Prop :=
  ∃ D : DataW Unit, (∃ es, D = .map es) ∧ w.ownsMap P k (plainElem P e) b n D ∧ ∀ s, OMat D s (m s)
section
variable {P : Program} {k e t : TypeId} {w w' : World} {b n : Nat} {m : ByteArray → Option ByteArray}
theorem OM.made (w : World) : OM P k e (w.alloc (.map #[] 0)) w.heap.size 0 (fun _ => none) :=
  ⟨.map [], ⟨_, rfl⟩, World.ownsMap_made w P k _, fun s zd => rfl⟩
theorem OM.lt (h : OM P k e w b n m) : b < w.heap.size := by obtain ⟨D, -, h, -⟩ := h; exact h.lt
theorem OM.kept {row : Option Nat} (h : OM P k e w b n m) (hg : w.grownBy w' row) (hne : some b ≠ row) : OM P k e w' b n m := by
  obtain ⟨D, h1, h2, h3⟩ := h; exact ⟨D, h1, h2.kept hg hne, h3⟩
theorem OM.mono (h : OM P k e w b n m) {n' : Nat} (hn : n ≤ n') : OM P k e w b n' m := by
  obtain ⟨D, h1, h2, h3⟩ := h; exact ⟨D, h1, h2.mono hn, h3⟩
theorem data_inj {a b : ByteArray} (h : a.data.toList = b.data.toList) : a = b := by
  cases a; cases b; simp only at h; rw [Array.toList_inj.1 h]
theorem OM.look (h : OM P k e w b n m) (hk : P.underlying k = some .string) (he : P.underlying e = some .string) (ht : P.underlying t = some (.map k e)) (hz : (zeroValue e).run P w = .ok (.string ⟨#[]⟩) w) {s : ByteArray} (hs : s.size ≤ maxLen) :
    (Instr.lookup t (.map (some b)) (.string s) true).run P w = .ok (.tuple #[.string ((m s).getD ⟨#[]⟩), .bool (m s).isSome]) w := by
  obtain ⟨D, -, ⟨es, clock, hb, F, hs', rfl⟩, hm⟩ := h
  have hms := hm s
  have hkey := WideMaps.keyOf_string_mk hk hs
  rcases Maps.fit_look true (Maps.string_keyed hk) ht hz hb F hkey with ⟨hrun, -, hat⟩ | ⟨e0, y, -, -, hrun, hR, hat, -⟩
  · cases hq : m s with
    | none => rw [hrun]; rfl
    | some v =>
      rw [hq] at hms
      have h1 := (hms (.lit (.bool true))).symm.trans (hat (.lit (.bool true)))
      simp at h1
  · obtain ⟨u, hu, hy, -⟩ := plainElem_string_inv he hR
    rw [hrun, hu]
    cases hq : m s with
    | none =>
      rw [hq] at hms
      have h1 := (hms (.lit (.bool true))).symm.trans (hat (.lit (.bool true)))
      rw [hy] at h1
      simp at h1
    | some v =>
      rw [hq] at hms
      have h1 := (hms (.lit (.bool true))).symm.trans (hat (.lit (.bool true)))
      rw [hy] at h1
      have h2 : v = u := data_inj (by simpa using h1)
      rw [h2]; rfl
theorem OM.update (h : OM P k e w b n m) (hk : P.underlying k = some .string) (he : P.underlying e = some .string) (ht : P.underlying t = some (.map k e)) (hn : n < maxLen) {s v : ByteArray} (hs : s.size ≤ maxLen) (hv : v.size ≤ maxLen) :
    ∃ w', (Instr.mapUpdate t (.map (some b)) (.string s) (.string v)).run P w = .ok () w' ∧ OM P k e w' b (n + 1) (fun u => if u = s then some v else m u) ∧ w.grownBy w' (some b) := by
  obtain ⟨D, hD, ho, hm⟩ := h
  obtain ⟨w', hrun, ho', hg⟩ := ho.update (Maps.string_keyed hk) ht hn (WideMaps.keyOf_string_mk hk hs) (plainElem_string he hv)
  refine ⟨w', hrun, ⟨_, ?_, ho', fun u => ?_⟩, hg⟩
  · obtain ⟨es, rfl⟩ := hD; exact ⟨_, rfl⟩
  · show OMat _ u (if u = s then some v else m u)
    by_cases hu : u = s
    · subst hu
      rw [if_pos rfl]
      exact fun zd => Maps.atKey_put_same hD (show WideAt.IsKeyLit (.string _) from trivial) _ _
    · rw [if_neg hu]
      have hne : (Lit.string u.data.toList) ≠ .string s.data.toList := fun h => hu (data_inj (by simpa using h))
      have h1 := hm u
      cases hq : m u with
      | none => rw [hq] at h1; exact fun zd => (Maps.atKey_put_other hne _ _).trans (h1 zd)
      | some x => rw [hq] at h1; exact fun zd => (Maps.atKey_put_other hne _ _).trans (h1 zd)
end
end Go.Proofs.Ytpkphijfncbbiaa
