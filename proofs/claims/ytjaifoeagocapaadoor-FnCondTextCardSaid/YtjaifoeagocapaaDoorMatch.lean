/- MatchFact, the program's and the reference's: one plain function of the pattern, the fact and the binding; wherever the lengths can be counted. -/
import Derived.Test.YtjaifoeagocapaaDoorExt
namespace Go.Proofs.YtjaifoeagocapaaDoor
open Go.RowKit
attribute [local go_sem ↓] Go.wp_at_zero Go.wp_at_succ
set_option linter.unusedVariables false
theorem mtV_1 {p f : FactV} {x : Prs} (h : isPatB p = false) : mtV p f x = none := by unfold mtV; rw [h]; simp
theorem mtV_2 {p f : FactV} {x : Prs} (h : isFactB f = false) : mtV p f x = none := by unfold mtV; rw [h]; simp
theorem mtV_3 {p f : FactV} {x : Prs} (h : isBindB x = false) : mtV p f x = none := by unfold mtV; rw [h]; simp
theorem mtV_4 {p f : FactV} {x : Prs} (h : (p.rel.toList == f.rel.toList) = false) : mtV p f x = none := by unfold mtV; simp [str_eq_f h]
theorem mtV_5 {p f : FactV} {x : Prs} (h : p.args.length ≠ f.args.length) : mtV p f x = none := by unfold mtV; simp [h]
theorem mtV_0 {p f : FactV} {x : Prs} (h1 : isPatB p = true) (h2 : isFactB f = true) (h3 : isBindB x = true) (h4 : (p.rel.toList == f.rel.toList) = true) (h5 : p.args.length = f.args.length) : mtV p f x = mtL (p.args.drop 0) (f.args.drop 0) x := by
  unfold mtV; rw [h1, h2, h3, str_eq_t h4, h5]; simp
theorem oL_mt_psz (p f : FactV) (b : Prs) : psz (oL (mtV p f b)) ≤ 126 := by
  cases h : mtV p f b with
  | none => simp [oL, psz, psum]
  | some c => have := mtV_psz h; simp [oL]; omega
theorem fsz_rel' {f : FactV} (h : fsz f ≤ 1048576) : f.rel.size ≤ 1048576 := by unfold fsz at h; omega
theorem fsz_arg' {f : FactV} (h : fsz f ≤ 1048576) (k : Nat) (hk : k < f.args.length) : f.args[k].size ≤ 1048576 := by
  have := tsum_mem (List.getElem_mem hk); unfold fsz tsz at h; omega
theorem ext_none {x : Prs} {v u : ByteArray} (h : extV x v u = none) : (extV x v u).isSome = false := by rw [h]; rfl
theorem ext_some {x c : Prs} {v u : ByteArray} (h : extV x v u = some c) : (extV x v u).isSome = true ∧ oL (extV x v u) = c := by rw [h]; exact ⟨rfl, rfl⟩
theorem AF.tx9 {w : World} {lo hi n c : Nat} {r : ByteArray} {a : Option Addr} {f : FactV} (h : Ob AF w lo hi (.agg #[.string r, .slice a n c]) f) : Ob TX w lo hi (.slice a n c) f.args := by
  obtain ⟨⟨cs, e1, av, e2, ht⟩, hh⟩ := h
  subst e2
  have e3 : Value.slice a n c = av := by have := e1; simp at this; exact this.2
  subst e3
  exact ⟨ht, hh⟩
end Go.Proofs.YtjaifoeagocapaaDoor
