/- The law FnExactMatchingFacts holds: for every input the call returns true and every argument reads as it read before; no condition. -/
import Derived.Test.YtojgkodffmdnpaaHead
import Derived.Test.YtojgkodffmdnpaaRows
import Derived.Test.YtojgkodffmdnpaaRep
import Derived.Test.YtojgkodffmdnpaaWFnExactMatchingFacts
namespace Go.Proofs.Ytojgkodffmdnpaa.FnExactMatchingFacts
open Go.RowKit Go.ChangeShapes Go.WideShapes Go.ChangeAt
theorem own : ownKnob Try.prog.godebug = none := by kernel_rfl
theorem laidOut : laidOutB Try.prog = true := headOk.laid
set_option maxRecDepth 100000 in
theorem lifted (os : Os) (started : os.Started) (H : Type) (enc : TypeId × Value → H) :
    ReturnsInHanded {} Try.checked os 11 .any (Rows.fnExactMatchingFactsSpec.pre6 enc Try.prog Try.f11 Rows.fnExactMatchingFactsRow.domain false) (Rows.fnExactMatchingFactsSpec.post enc Try.prog Try.f11 false true false false) := by
  refine returnsInHanded_of_change (C := Try.checked) own started (by kernel_rfl) Try.func11
    (ChangeSpec.witness6 (enc := enc) (C := Try.checked) false ⟨#[], #[.agg #[.string ByteArray.empty, .slice none 0 0], .slice none 0 0, .slice none 0 0], []⟩ 8 (by kernel_rfl) (by kernel_rfl) (by kernel_rfl) (by kernel_rfl)) ?_
  intro W base args ds gs before hval0 hW hcnd _
  have hval : ∀ (j : Nat) t v, Try.f11.params[j]? = some t → args[j]? = some v → Value.okWide Try.prog W .any base t v := hval0
  have hW' := hW
  obtain ⟨p, q, hA0, hV, rfl, hfz, hnd⟩ := hW
  have hA : DataW.TrodAll enc Try.prog W 0 (fun _ => true) true Try.f11.params.toList args.toList ds p := hA0
  rw [Try.params11] at hA hval
  obtain ⟨v0, vs0, d0, ds0, p0, q0, hargs, rfl, rfl, k0, r0⟩ := trodAll_cons hA
  obtain ⟨v1, vs1, d1, ds1, p1, q1, rfl, rfl, rfl, k1, r1⟩ := trodAll_cons r0
  obtain ⟨v2, vs2, d2, ds2, p2, q2, rfl, rfl, rfl, k2, r2⟩ := trodAll_cons r1
  obtain ⟨rfl, rfl, rfl⟩ := trodAll_nil r2
  obtain rfl : args = #[v0, v1, v2] := by cases args; simp_all
  obtain ⟨rfl, rfl⟩ := trodVars_none hV
  have lt0 : ∀ x ∈ p0, x.block < W.heap.size := by obtain ⟨m, hm⟩ := k0; exact DataW.trod_lt m _ _ _ hm
  obtain ⟨x0, m0, o0⟩ := op_agg Try.underlying24 (hval 0 24 v0 rfl rfl) k0 (fun _ _ _ hx => rd_fact Try.underlying24 (by kernel_rfl) rfl rfl (by kernel_rfl) Try.underlying9 rfl rfl (by kernel_rfl) Try.underlying22 Try.underlying9 (by kernel_rfl) hx)
  have lt1 : ∀ x ∈ p1, x.block < W.heap.size := by obtain ⟨m, hm⟩ := k1; exact DataW.trod_lt m _ _ _ hm
  obtain ⟨x1, m1, o1⟩ := op_sl Try.underlying27 (hval 1 27 v1 rfl rfl) k1 (fun _ _ _ hx => rd_SL (size := 2) Try.underlying27 (by kernel_rfl) (by omega) (fun _ _ _ hs => rd_pair Try.underlying109 (by kernel_rfl) rfl rfl (by kernel_rfl) Try.underlying9 rfl rfl (by kernel_rfl) Try.underlying9 hs) hx)
  have lt2 : ∀ x ∈ p2, x.block < W.heap.size := by obtain ⟨m, hm⟩ := k2; exact DataW.trod_lt m _ _ _ hm
  obtain ⟨x2, m2, o2⟩ := op_sl Try.underlying42 (hval 2 42 v2 rfl rfl) k2 (fun _ _ _ hx => rd_SL (size := 2) Try.underlying42 (by kernel_rfl) (by omega) (fun _ _ _ hs => rd_fact Try.underlying88 (by kernel_rfl) rfl rfl (by kernel_rfl) Try.underlying9 rfl rfl (by kernel_rfl) Try.underlying22 Try.underlying9 (by kernel_rfl) hs) hx)
  clear hA0 hval0
  refine (walk_FnExactMatchingFacts W v0 x0 m0 o0 v1 x1 m1 o1 v2 x2 m2 o2).mono fun e W' ⟨he, bel⟩ => ?_
  subst he
  exact ⟨_, rfl, _, _, _, [], _, [], hW', trodAll_mk1 (shut_bool Try.underlying4 _), (trodAll_cons_mk (Below.trod laidOut (by kernel_rfl) (of_decide_eq_true (by kernel_rfl)) k0 bel lt0) (trodAll_cons_mk (Below.trod laidOut (by kernel_rfl) (of_decide_eq_true (by kernel_rfl)) k1 bel lt1) (trodAll_cons_mk (Below.trod laidOut (by kernel_rfl) (of_decide_eq_true (by kernel_rfl)) k2 bel lt2) trodAll_mk0))), rfl, bel.frame _, fun h => by cases h⟩
/-- the statement -/
theorem proved : Rows.FnExactMatchingFactsSaid :=
  OpenClaim.holds_of_wide 11 Try.f11 rfl rfl rfl rfl rfl rfl rfl ⟨rfl, rfl, rfl, rfl, rfl⟩ rfl rfl rfl rfl rfl (by kernel_rfl) Try.func11 (joined_mk headOk rfl rfl (by kernel_rfl))
    (of_decide_eq_true (by kernel_rfl)) (by unfold Func.isWrapper; rw [if_neg (by decide +kernel)]; exact ⟨rfl, rfl⟩)
    (fun os started H enc _ => lifted os started H enc)
#print axioms proved
end Go.Proofs.Ytojgkodffmdnpaa.FnExactMatchingFacts
