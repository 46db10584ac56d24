/- 'joinedFacts' cut into its limbs: what looks at the program's head string is proved by lemma, not by evaluation (with many laws in a seat the kernel's evaluation runs out of memory). -/
import Derived.Test.YtpkphijfncbbiaaRows
import Derived.ProofKit
set_option maxRecDepth 100000
namespace Go.Proofs.Ytpkphijfncbbiaa
theorem make_of_words {P : Program} {R : List (List Char)} (h : behindMainWord (wordsSigns P.initOrder.toList) = ['c','u','t'] :: R) : P.make = some .cut := by
  unfold Program.make; rw [h]; rfl
theorem lifts_of_words {P : Program} {R : List (List Char)} (h : behindMainWord (wordsSigns P.initOrder.toList) = ['c','u','t'] :: R) : P.headLifts = [] := by
  have e : stripLifts liftWords (['c','u','t'] :: R) = ([], ['c','u','t'] :: R) := by rfl
  unfold Program.headLifts; rw [h, e]; rfl
theorem final_of_words {P : Program} {R : List (List Char)} (h : behindMainWord (wordsSigns P.initOrder.toList) = ['c','u','t'] :: R) : P.liftsFinal = false := by
  unfold Program.liftsFinal; rw [h, lifts_of_words h]; rfl
theorem may_of_words {P : Program} {R : List (List Char)} (h : behindMainWord (wordsSigns P.initOrder.toList) = ['c','u','t'] :: R) (h1 : P.laysLater = false) (h2 : P.bearsReflect = false) (h3 : P.doorFits [] = true) : P.mayEnter = true := by
  have e : stripLifts liftWords (['c','u','t'] :: R) = ([], ['c','u','t'] :: R) := by rfl
  have e1 : ((some ['c','u','t'] : Option (List Char)) == some "cut".toList) = true := by rfl
  unfold Program.mayEnter; rw [h]; simp only [e, h1, h2, h3, List.head?_cons, e1]; simp
/-- the facts of the program alone, proved once for a seat -/
structure HeadOk (P : Program) : Prop where
  may : P.mayEnter = true
  fin : P.liftsFinal = false
  made : P.make = some .cut
  laid : laidOutB P = true
  rowed : mapsRowed P = true
  stops : (P.stops == []) = true
  knobs : (P.stopKnobs == []) = true
  heard : P.stopsHeard = true
theorem joined_mk {P : Program} (H : HeadOk P) {f : FuncId} {fn : Func} {s : ChangeSpec} {c : OpenClaim} (hl : c.lifted = false) (hm : c.make = .cut)
    (h : (c.wf (OpenSpec.ofChange s) && fn.params.all (P.readableRec ·) && namedTie P c.named s.vars && (c.stops == []) && (c.knobs == []) && (c.inPlace == P.inPlace f) && (c.unfollowed == P.unfollowed f) && (c.recurses == P.recurses f) && (c.named == P.varsNamed f) && (c.maps == (fn.params.toList ++ s.plain.varTypes P).any (P.mapsRec ·)) && (c.ifaces == (fn.params.toList ++ s.plain.varTypes P).any (P.ifacesRec ·)) && (c.mapsOut == P.mapsAmong fn.resultTypes.toList) && (c.loops == (fn.params.toList ++ s.plain.varTypes P).any (P.loopsFrom ·)) && (c.wideKeys == (fn.params.toList ++ s.plain.varTypes P ++ fn.resultTypes.toList).any (P.wideKeysFrom ·)) && s.vars.all (P.varReadable ·) && fn.resultTypes.all (fun t => P.readableRec t && decide (t < P.types.size)) && (c.ifacesOut == fn.resultTypes.toList.any (P.ifacesRec ·)) && (c.loopsOut == fn.resultTypes.toList.any (P.loopsFrom ·)) && (c.plainKeys == P.plainKeys) && c.shortTexts.isNone && (c.kinds == (if c.domain.isEmpty then [] else fn.params.toList.map fun t => match P.underlying t with | some (.int k) => some k | _ => none)) && (c.pinned == c.pinnedBy) && (c.veiled == (fn.params.toList ++ s.plain.varTypes P ++ fn.resultTypes.toList).any (P.veiledRec ·)) && c.veiledFits P fn.params.toList (fn.params.toList ++ s.plain.varTypes P ++ fn.resultTypes.toList)) = true) : joinedFacts P f fn s c = true := by
  simp only [Bool.and_eq_true] at h
  obtain ⟨⟨⟨⟨⟨⟨⟨⟨⟨⟨⟨⟨⟨⟨⟨⟨⟨⟨⟨⟨⟨⟨⟨a0, a1⟩, a2⟩, a3⟩, a4⟩, a5⟩, a6⟩, a7⟩, a8⟩, a9⟩, a10⟩, a11⟩, a12⟩, a13⟩, a14⟩, a15⟩, a16⟩, a17⟩, a18⟩, a19⟩, a20⟩, a21⟩, a22⟩, a23⟩ := h
  simp only [joinedFacts, Bool.and_eq_true]
  exact ⟨⟨⟨⟨⟨⟨⟨⟨⟨⟨⟨⟨⟨⟨⟨⟨⟨⟨⟨⟨⟨⟨⟨⟨⟨⟨⟨⟨⟨⟨⟨a0, H.laid⟩, H.rowed⟩, a1⟩, a2⟩, a3⟩, H.stops⟩, a4⟩, H.knobs⟩, a5⟩, a6⟩, a7⟩, a8⟩, a9⟩, a10⟩, a11⟩, a12⟩, a13⟩, a14⟩, a15⟩, a16⟩, a17⟩, a18⟩, a19⟩, H.heard⟩, H.may⟩, (by rw [hl, H.fin]; rfl)⟩, (by rw [hm, H.made]; rfl)⟩, a20⟩, a21⟩, a22⟩, a23⟩
theorem headChars : Try.prog.initOrder.toList = ['h', 'a', 'r', 'n', 'e', 's', 's', ' ', '2', '8', '6', '5', '7', 'f', '5', '9', '3', 'd', 'b', 'f', '7', '7', '3', '8', '5', 'e', '3', 'e', 'c', 'c', 'f', '1', '2', '7', '4', 'c', 'a', '2', 'f', '4', 'c', 'd', '5', '6', '8', '4', '6', '1', '7', 'a', 'a', '2', 'b', '8', '8', 'e', '1', '2', 'e', '6', '4', 'd', '0', 'b', '1', 'e', '8', '2', '2', '8', 'a', '2', ' ', 'c', 'u', 't', ' ', 'a', 't', ' ', 'l', 'o', 'o', 'p', '.', 'e', 'x', 'a', 'm', 'p', 'l', 'e', '/', 'g', '0', '3', '0', '1', '5', '/', 'l', 'a', 'w', 's', '.', 'F', 'n', 'E', 'x', 'a', 'c', 't', 'C', 'o', 'v', 'e', 'r', 's', 'P', 'a', 't', 't', 'e', 'r', 'n', ' ', 'l', 'o', 'o', 'p', '.', 'e', 'x', 'a', 'm', 'p', 'l', 'e', '/', 'g', '0', '3', '0', '1', '5', '/', 'l', 'a', 'w', 's', '.', 'F', 'n', 'I', 'n', 's', 't', 'a', 'n', 'c', 'e', ' ', 'l', 'o', 'o', 'p', '.', 'e', 'x', 'a', 'm', 'p', 'l', 'e', '/', 'g', '0', '3', '0', '1', '5', '/', 'l', 'a', 'w', 's', '.', 'F', 'n', 'R', 'e', 'n', 'a', 'm', 'e', 'd', ' ', 'l', 'o', 'o', 'p', '.', 'e', 'x', 'a', 'm', 'p', 'l', 'e', '/', 'g', '0', '3', '0', '1', '5', '/', 'l', 'a', 'w', 's', '.', 'F', 'n', 'M', 'a', 't', 'c', 'h', 'e', 'd'] := by
  have h : Try.prog.initOrder = String.ofList ['h', 'a', 'r', 'n', 'e', 's', 's', ' ', '2', '8', '6', '5', '7', 'f', '5', '9', '3', 'd', 'b', 'f', '7', '7', '3', '8', '5', 'e', '3', 'e', 'c', 'c', 'f', '1', '2', '7', '4', 'c', 'a', '2', 'f', '4', 'c', 'd', '5', '6', '8', '4', '6', '1', '7', 'a', 'a', '2', 'b', '8', '8', 'e', '1', '2', 'e', '6', '4', 'd', '0', 'b', '1', 'e', '8', '2', '2', '8', 'a', '2', ' ', 'c', 'u', 't', ' ', 'a', 't', ' ', 'l', 'o', 'o', 'p', '.', 'e', 'x', 'a', 'm', 'p', 'l', 'e', '/', 'g', '0', '3', '0', '1', '5', '/', 'l', 'a', 'w', 's', '.', 'F', 'n', 'E', 'x', 'a', 'c', 't', 'C', 'o', 'v', 'e', 'r', 's', 'P', 'a', 't', 't', 'e', 'r', 'n', ' ', 'l', 'o', 'o', 'p', '.', 'e', 'x', 'a', 'm', 'p', 'l', 'e', '/', 'g', '0', '3', '0', '1', '5', '/', 'l', 'a', 'w', 's', '.', 'F', 'n', 'I', 'n', 's', 't', 'a', 'n', 'c', 'e', ' ', 'l', 'o', 'o', 'p', '.', 'e', 'x', 'a', 'm', 'p', 'l', 'e', '/', 'g', '0', '3', '0', '1', '5', '/', 'l', 'a', 'w', 's', '.', 'F', 'n', 'R', 'e', 'n', 'a', 'm', 'e', 'd', ' ', 'l', 'o', 'o', 'p', '.', 'e', 'x', 'a', 'm', 'p', 'l', 'e', '/', 'g', '0', '3', '0', '1', '5', '/', 'l', 'a', 'w', 's', '.', 'F', 'n', 'M', 'a', 't', 'c', 'h', 'e', 'd'] := by kernel_rfl
  rw [h]; exact String.toList_ofList
theorem main_of_words {P : Program} {h s : List Char} {R : List (List Char)} (hw : wordsSigns P.initOrder.toList = h :: s :: R) (hs : isSumSigns s = true) (hh : (h == "harness".toList) = true) : P.mainIs = some (true, s) := by
  unfold Program.mainIs; rw [hw]
  show (if (!isSumSigns s) = true then none else if (h == "harness".toList) = true then some (true, s) else _) = _
  rw [if_neg (by rw [hs]; exact Bool.false_ne_true), if_pos hh]
theorem headMain : Try.prog.mainIs = some (true, "28657f593dbf77385e3eccf1274ca2f4cd5684617aa2b88e12e64d0b1e8228a2".toList) := by
  have e : "28657f593dbf77385e3eccf1274ca2f4cd5684617aa2b88e12e64d0b1e8228a2" = String.ofList ['2', '8', '6', '5', '7', 'f', '5', '9', '3', 'd', 'b', 'f', '7', '7', '3', '8', '5', 'e', '3', 'e', 'c', 'c', 'f', '1', '2', '7', '4', 'c', 'a', '2', 'f', '4', 'c', 'd', '5', '6', '8', '4', '6', '1', '7', 'a', 'a', '2', 'b', '8', '8', 'e', '1', '2', 'e', '6', '4', 'd', '0', 'b', '1', 'e', '8', '2', '2', '8', 'a', '2'] := by kernel_rfl
  rw [e, String.toList_ofList]
  refine main_of_words (h := ['h','a','r','n','e','s','s']) (R := ['c','u','t'] :: [['a', 't'], ['l', 'o', 'o', 'p', '.', 'e', 'x', 'a', 'm', 'p', 'l', 'e', '/', 'g', '0', '3', '0', '1', '5', '/', 'l', 'a', 'w', 's', '.', 'F', 'n', 'E', 'x', 'a', 'c', 't', 'C', 'o', 'v', 'e', 'r', 's', 'P', 'a', 't', 't', 'e', 'r', 'n'], ['l', 'o', 'o', 'p', '.', 'e', 'x', 'a', 'm', 'p', 'l', 'e', '/', 'g', '0', '3', '0', '1', '5', '/', 'l', 'a', 'w', 's', '.', 'F', 'n', 'I', 'n', 's', 't', 'a', 'n', 'c', 'e'], ['l', 'o', 'o', 'p', '.', 'e', 'x', 'a', 'm', 'p', 'l', 'e', '/', 'g', '0', '3', '0', '1', '5', '/', 'l', 'a', 'w', 's', '.', 'F', 'n', 'R', 'e', 'n', 'a', 'm', 'e', 'd'], ['l', 'o', 'o', 'p', '.', 'e', 'x', 'a', 'm', 'p', 'l', 'e', '/', 'g', '0', '3', '0', '1', '5', '/', 'l', 'a', 'w', 's', '.', 'F', 'n', 'M', 'a', 't', 'c', 'h', 'e', 'd']]) ?_ (by kernel_rfl) (by kernel_rfl)
  rw [headChars]; kernel_rfl
theorem headWords : behindMainWord (wordsSigns Try.prog.initOrder.toList) = ['c','u','t'] :: [['a', 't'], ['l', 'o', 'o', 'p', '.', 'e', 'x', 'a', 'm', 'p', 'l', 'e', '/', 'g', '0', '3', '0', '1', '5', '/', 'l', 'a', 'w', 's', '.', 'F', 'n', 'E', 'x', 'a', 'c', 't', 'C', 'o', 'v', 'e', 'r', 's', 'P', 'a', 't', 't', 'e', 'r', 'n'], ['l', 'o', 'o', 'p', '.', 'e', 'x', 'a', 'm', 'p', 'l', 'e', '/', 'g', '0', '3', '0', '1', '5', '/', 'l', 'a', 'w', 's', '.', 'F', 'n', 'I', 'n', 's', 't', 'a', 'n', 'c', 'e'], ['l', 'o', 'o', 'p', '.', 'e', 'x', 'a', 'm', 'p', 'l', 'e', '/', 'g', '0', '3', '0', '1', '5', '/', 'l', 'a', 'w', 's', '.', 'F', 'n', 'R', 'e', 'n', 'a', 'm', 'e', 'd'], ['l', 'o', 'o', 'p', '.', 'e', 'x', 'a', 'm', 'p', 'l', 'e', '/', 'g', '0', '3', '0', '1', '5', '/', 'l', 'a', 'w', 's', '.', 'F', 'n', 'M', 'a', 't', 'c', 'h', 'e', 'd']] := by
  rw [headChars]; kernel_rfl
theorem headOk : HeadOk Try.prog :=
  ⟨may_of_words headWords (by kernel_rfl) (by kernel_rfl) (by kernel_rfl), final_of_words headWords, make_of_words headWords, by kernel_rfl, by kernel_rfl, by kernel_rfl, by kernel_rfl, by kernel_rfl⟩
end Go.Proofs.Ytpkphijfncbbiaa
