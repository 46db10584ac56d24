/- 'joinedFacts' cut into its limbs: what looks at the program's head string is proved by lemma, not by evaluation (with many laws in a seat the kernel's evaluation runs out of memory). -/
import Derived.Test.YtgpgeegpaaoakaaDoorRows
import Derived.ProofKit
set_option maxRecDepth 100000
namespace Go.Proofs.YtgpgeegpaaoakaaDoor
theorem make_of_words {P : Program} {R : List (List Char)} (h : behindMainWord (wordsSigns P.initOrder.toList) = ['c','u','t'] :: R) : P.make = some .cut := by
  unfold Program.make; rw [h]; rfl
theorem lifts_of_words {P : Program} {R : List (List Char)} (h : behindMainWord (wordsSigns P.initOrder.toList) = ['c','u','t'] :: R) : P.headLifts = [] := by
  have e : stripLifts liftWords (['c','u','t'] :: R) = ([], ['c','u','t'] :: R) := by rfl
  unfold Program.headLifts; rw [h, e]; rfl
theorem final_of_words {P : Program} {R : List (List Char)} (h : behindMainWord (wordsSigns P.initOrder.toList) = ['c','u','t'] :: R) : P.liftsFinal = false := by
  unfold Program.liftsFinal; rw [h, lifts_of_words h]; rfl
theorem may_of_words {P : Program} {R : List (List Char)} (h : behindMainWord (wordsSigns P.initOrder.toList) = ['c','u','t'] :: R) (h1 : P.laysLater = false) (h2 : P.bearsReflect = false) (h3 : P.doorFits [] = true) : P.mayEnter = true := by
  have e : stripLifts liftWords (['c','u','t'] :: R) = ([], ['c','u','t'] :: R) := by rfl
  have e1 : ((some ['c','u','t'] : Option (List Char)) == some "cut".toList) = true := by rfl
  unfold Program.mayEnter; rw [h]; simp only [e, h1, h2, h3, List.head?_cons, e1]; simp
/-- the facts of the program alone, proved once for a seat -/
structure HeadOk (P : Program) : Prop where
  may : P.mayEnter = true
  fin : P.liftsFinal = false
  made : P.make = some .cut
  laid : laidOutB P = true
  rowed : mapsRowed P = true
  stops : (P.stops == []) = true
  knobs : (P.stopKnobs == []) = true
  heard : P.stopsHeard = true
theorem joined_mk {P : Program} (H : HeadOk P) {f : FuncId} {fn : Func} {s : ChangeSpec} {c : OpenClaim} (hl : c.lifted = false) (hm : c.make = .cut)
    (h : (c.wf (OpenSpec.ofChange s) && fn.params.all (P.readableRec ·) && namedTie P c.named s.vars && (c.stops == []) && (c.knobs == []) && (c.inPlace == P.inPlace f) && (c.unfollowed == P.unfollowed f) && (c.recurses == P.recurses f) && (c.named == P.varsNamed f) && (c.maps == (fn.params.toList ++ s.plain.varTypes P).any (P.mapsRec ·)) && (c.ifaces == (fn.params.toList ++ s.plain.varTypes P).any (P.ifacesRec ·)) && (c.mapsOut == P.mapsAmong fn.resultTypes.toList) && (c.loops == (fn.params.toList ++ s.plain.varTypes P).any (P.loopsFrom ·)) && (c.wideKeys == (fn.params.toList ++ s.plain.varTypes P ++ fn.resultTypes.toList).any (P.wideKeysFrom ·)) && s.vars.all (P.varReadable ·) && fn.resultTypes.all (fun t => P.readableRec t && decide (t < P.types.size)) && (c.ifacesOut == fn.resultTypes.toList.any (P.ifacesRec ·)) && (c.loopsOut == fn.resultTypes.toList.any (P.loopsFrom ·)) && (c.plainKeys == P.plainKeys) && c.shortTexts.isNone && (c.kinds == (if c.domain.isEmpty then [] else fn.params.toList.map fun t => match P.underlying t with | some (.int k) => some k | _ => none)) && (c.pinned == c.pinnedBy) && (c.veiled == (fn.params.toList ++ s.plain.varTypes P ++ fn.resultTypes.toList).any (P.veiledRec ·)) && c.veiledFits P fn.params.toList (fn.params.toList ++ s.plain.varTypes P ++ fn.resultTypes.toList)) = true) : joinedFacts P f fn s c = true := by
  simp only [Bool.and_eq_true] at h
  obtain ⟨⟨⟨⟨⟨⟨⟨⟨⟨⟨⟨⟨⟨⟨⟨⟨⟨⟨⟨⟨⟨⟨⟨a0, a1⟩, a2⟩, a3⟩, a4⟩, a5⟩, a6⟩, a7⟩, a8⟩, a9⟩, a10⟩, a11⟩, a12⟩, a13⟩, a14⟩, a15⟩, a16⟩, a17⟩, a18⟩, a19⟩, a20⟩, a21⟩, a22⟩, a23⟩ := h
  simp only [joinedFacts, Bool.and_eq_true]
  exact ⟨⟨⟨⟨⟨⟨⟨⟨⟨⟨⟨⟨⟨⟨⟨⟨⟨⟨⟨⟨⟨⟨⟨⟨⟨⟨⟨⟨⟨⟨⟨a0, H.laid⟩, H.rowed⟩, a1⟩, a2⟩, a3⟩, H.stops⟩, a4⟩, H.knobs⟩, a5⟩, a6⟩, a7⟩, a8⟩, a9⟩, a10⟩, a11⟩, a12⟩, a13⟩, a14⟩, a15⟩, a16⟩, a17⟩, a18⟩, a19⟩, H.heard⟩, H.may⟩, (by rw [hl, H.fin]; rfl)⟩, (by rw [hm, H.made]; rfl)⟩, a20⟩, a21⟩, a22⟩, a23⟩
theorem headChars : Tryd.prog.initOrder.toList = ['h', 'a', 'r', 'n', 'e', 's', 's', ' ', '0', '9', '0', '9', 'e', '8', '9', '5', 'e', '9', 'a', 'f', '6', 'c', 'd', '3', 'a', '6', 'b', '4', 'a', '4', '2', '2', '8', '0', 'd', '4', '6', '7', 'e', '0', '7', '1', '5', '5', 'f', '5', 'f', 'b', '7', '3', '7', '7', 'f', '6', 'a', 'c', 'b', '8', '0', '5', 'f', 'e', '5', 'd', '3', 'f', '3', 'b', 'b', 'a', 'f', '0', ' ', 'c', 'u', 't', ' ', 'a', 't', ' ', 'l', 'o', 'o', 'p', '.', 'e', 'x', 'a', 'm', 'p', 'l', 'e', '/', 'g', '0', '3', '0', '1', '5', '/', 'l', 'a', 'w', 's', '.', 'F', 'n', 'F', 'a', 'c', 't', 'O', 'r', 'd', 'e', 'r'] := by
  have h : Tryd.prog.initOrder = String.ofList ['h', 'a', 'r', 'n', 'e', 's', 's', ' ', '0', '9', '0', '9', 'e', '8', '9', '5', 'e', '9', 'a', 'f', '6', 'c', 'd', '3', 'a', '6', 'b', '4', 'a', '4', '2', '2', '8', '0', 'd', '4', '6', '7', 'e', '0', '7', '1', '5', '5', 'f', '5', 'f', 'b', '7', '3', '7', '7', 'f', '6', 'a', 'c', 'b', '8', '0', '5', 'f', 'e', '5', 'd', '3', 'f', '3', 'b', 'b', 'a', 'f', '0', ' ', 'c', 'u', 't', ' ', 'a', 't', ' ', 'l', 'o', 'o', 'p', '.', 'e', 'x', 'a', 'm', 'p', 'l', 'e', '/', 'g', '0', '3', '0', '1', '5', '/', 'l', 'a', 'w', 's', '.', 'F', 'n', 'F', 'a', 'c', 't', 'O', 'r', 'd', 'e', 'r'] := by kernel_rfl
  rw [h]; exact String.toList_ofList
theorem main_of_words {P : Program} {h s : List Char} {R : List (List Char)} (hw : wordsSigns P.initOrder.toList = h :: s :: R) (hs : isSumSigns s = true) (hh : (h == "harness".toList) = true) : P.mainIs = some (true, s) := by
  unfold Program.mainIs; rw [hw]
  show (if (!isSumSigns s) = true then none else if (h == "harness".toList) = true then some (true, s) else _) = _
  rw [if_neg (by rw [hs]; exact Bool.false_ne_true), if_pos hh]
theorem headMain : Tryd.prog.mainIs = some (true, "0909e895e9af6cd3a6b4a42280d467e07155f5fb7377f6acb805fe5d3f3bbaf0".toList) := by
  have e : "0909e895e9af6cd3a6b4a42280d467e07155f5fb7377f6acb805fe5d3f3bbaf0" = String.ofList ['0', '9', '0', '9', 'e', '8', '9', '5', 'e', '9', 'a', 'f', '6', 'c', 'd', '3', 'a', '6', 'b', '4', 'a', '4', '2', '2', '8', '0', 'd', '4', '6', '7', 'e', '0', '7', '1', '5', '5', 'f', '5', 'f', 'b', '7', '3', '7', '7', 'f', '6', 'a', 'c', 'b', '8', '0', '5', 'f', 'e', '5', 'd', '3', 'f', '3', 'b', 'b', 'a', 'f', '0'] := by kernel_rfl
  rw [e, String.toList_ofList]
  refine main_of_words (h := ['h','a','r','n','e','s','s']) (R := ['c','u','t'] :: [['a', 't'], ['l', 'o', 'o', 'p', '.', 'e', 'x', 'a', 'm', 'p', 'l', 'e', '/', 'g', '0', '3', '0', '1', '5', '/', 'l', 'a', 'w', 's', '.', 'F', 'n', 'F', 'a', 'c', 't', 'O', 'r', 'd', 'e', 'r']]) ?_ (by kernel_rfl) (by kernel_rfl)
  rw [headChars]; kernel_rfl
theorem headWords : behindMainWord (wordsSigns Tryd.prog.initOrder.toList) = ['c','u','t'] :: [['a', 't'], ['l', 'o', 'o', 'p', '.', 'e', 'x', 'a', 'm', 'p', 'l', 'e', '/', 'g', '0', '3', '0', '1', '5', '/', 'l', 'a', 'w', 's', '.', 'F', 'n', 'F', 'a', 'c', 't', 'O', 'r', 'd', 'e', 'r']] := by
  rw [headChars]; kernel_rfl
theorem headOk : HeadOk Tryd.prog :=
  ⟨may_of_words headWords (by kernel_rfl) (by kernel_rfl) (by kernel_rfl), final_of_words headWords, make_of_words headWords, by kernel_rfl, by kernel_rfl, by kernel_rfl, by kernel_rfl, by kernel_rfl⟩
end Go.Proofs.YtgpgeegpaaoakaaDoor
