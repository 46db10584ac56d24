/- The law FnExactCondVars holds: for every input the call returns true and every argument reads as it read before; no condition. -/
import Derived.Test.YtojgkodffmdnpaaHead
import Derived.Test.YtojgkodffmdnpaaRows
import Derived.Test.YtojgkodffmdnpaaRep
import Derived.Test.YtojgkodffmdnpaaWFnExactCondVars
namespace Go.Proofs.Ytojgkodffmdnpaa.FnExactCondVars
open Go.RowKit Go.ChangeShapes Go.WideShapes Go.ChangeAt
theorem own : ownKnob Try.prog.godebug = none := by kernel_rfl
theorem laidOut : laidOutB Try.prog = true := headOk.laid
set_option maxRecDepth 100000 in
theorem lifted (os : Os) (started : os.Started) (H : Type) (enc : TypeId × Value → H) :
    ReturnsInHanded {} Try.checked os 13 .any (Rows.fnExactCondVarsSpec.pre6 enc Try.prog Try.f13 Rows.fnExactCondVarsRow.domain false) (Rows.fnExactCondVarsSpec.post enc Try.prog Try.f13 false true false false) := by
  refine returnsInHanded_of_change (C := Try.checked) own started (by kernel_rfl) Try.func13
    (ChangeSpec.witness6 (enc := enc) (C := Try.checked) false ⟨#[], #[.agg #[.int .i64 0, .string ByteArray.empty, .slice none 0 0, .string ByteArray.empty, .string ByteArray.empty]], []⟩ 8 (by kernel_rfl) (by kernel_rfl) (by kernel_rfl) (by kernel_rfl)) ?_
  intro W base args ds gs before hval0 hW hcnd _
  have hval : ∀ (j : Nat) t v, Try.f13.params[j]? = some t → args[j]? = some v → Value.okWide Try.prog W .any base t v := hval0
  have hW' := hW
  obtain ⟨p, q, hA0, hV, rfl, hfz, hnd⟩ := hW
  have hA : DataW.TrodAll enc Try.prog W 0 (fun _ => true) true Try.f13.params.toList args.toList ds p := hA0
  rw [Try.params13] at hA hval
  obtain ⟨v0, vs0, d0, ds0, p0, q0, hargs, rfl, rfl, k0, r0⟩ := trodAll_cons hA
  obtain ⟨rfl, rfl, rfl⟩ := trodAll_nil r0
  obtain rfl : args = #[v0] := by cases args; simp_all
  obtain ⟨rfl, rfl⟩ := trodVars_none hV
  have lt0 : ∀ x ∈ p0, x.block < W.heap.size := by obtain ⟨m, hm⟩ := k0; exact DataW.trod_lt m _ _ _ hm
  obtain ⟨x0, m0, o0⟩ := op_agg Try.underlying26 (hval 0 26 v0 rfl rfl) k0 (fun _ _ _ hx => rd_cond Try.underlying26 (by kernel_rfl) rfl rfl (by kernel_rfl) Try.underlying3 rfl rfl (by kernel_rfl) (fun _ _ _ hf => rd_fact Try.underlying24 (by kernel_rfl) rfl rfl (by kernel_rfl) Try.underlying9 rfl rfl (by kernel_rfl) Try.underlying22 Try.underlying9 (by kernel_rfl) hf) rfl rfl (by kernel_rfl) Try.underlying9 rfl rfl (by kernel_rfl) Try.underlying9 hx)
  clear hA0 hval0
  refine (walk_FnExactCondVars W v0 x0 m0 o0).mono fun e W' ⟨he, bel⟩ => ?_
  subst he
  exact ⟨_, rfl, _, _, _, [], _, [], hW', trodAll_mk1 (shut_bool Try.underlying4 _), (trodAll_cons_mk (Below.trod laidOut (by kernel_rfl) (of_decide_eq_true (by kernel_rfl)) k0 bel lt0) trodAll_mk0), rfl, bel.frame _, fun h => by cases h⟩
/-- the statement -/
theorem proved : Rows.FnExactCondVarsSaid :=
  OpenClaim.holds_of_wide 13 Try.f13 rfl rfl rfl rfl rfl rfl rfl ⟨rfl, rfl, rfl, rfl, rfl⟩ rfl rfl rfl rfl rfl (by kernel_rfl) Try.func13 (joined_mk headOk rfl rfl (by kernel_rfl))
    (of_decide_eq_true (by kernel_rfl)) (by unfold Func.isWrapper; rw [if_neg (by decide +kernel)]; exact ⟨rfl, rfl⟩)
    (fun os started H enc _ => lifted os started H enc)
#print axioms proved
end Go.Proofs.Ytojgkodffmdnpaa.FnExactCondVars
