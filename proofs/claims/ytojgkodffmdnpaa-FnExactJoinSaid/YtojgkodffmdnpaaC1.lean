/- The contracts of the laws' own functions on texts, facts and patterns, said of things with their blocks; wherever the lengths can be counted. -/
import Derived.Test.YtojgkodffmdnpaaFact
namespace Go.Proofs.Ytojgkodffmdnpaa
open Go.RowKit
theorem csz_texts {v : Value} {x : List ByteArray} {left : Int} {lo hi : Nat} {w : World} (h : Ob TX w lo hi v x) (hok : okT x) (h0 : 0 ≤ left) (h2 : left ≤ 1048576) :
    Calls Try.prog 60 #[v, .int .i64 left] w fun e w' => e = .returned (.int .i64 (szv left (tsz x))) ∧ Up w w' :=
  (szT_any v x left lo hi w h.1 hok h0 h2).mono fun _ _ ⟨a, b⟩ => ⟨a, b ▸ Up.rf w⟩
theorem cto_texts {v : Value} {x : List ByteArray} {lo hi : Nat} {w : World} (h : Ob TX w lo hi v x) (hz : tsz x ≤ 1048576) :
    Calls Try.prog 62 #[v] w fun e w' => ∃ v', e = .returned v' ∧ Ob (TO 9) w' w.heap.size w'.heap.size v' x ∧ Up w w' :=
  (toT_any v x lo hi w h.1 (by unfold tsz at hz; omega) h.2).mono fun _ _ ⟨v', a, b, c⟩ => ⟨v', a, ⟨b, Nat.le_refl _⟩, c⟩
theorem ceq_texts {v v' : Value} {x : List ByteArray} {lo hi lo' hi' : Nat} {w : World} (h : Ob TX w lo hi v x) (h' : Ob TX w lo' hi' v' x) :
    Calls Try.prog 64 #[v, v'] w fun e w' => e = .returned (.bool true) ∧ Up w w' := eqT_any v v' x lo hi lo' hi' w h.1 h'.1 h.2 h'.2
theorem csz_fact {v : Value} {x : FactV} {left : Int} {lo hi : Nat} {w : World} (h : Ob AF w lo hi v x) (hok : okF x) (h0 : 0 ≤ left) (h2 : left ≤ 1048576) :
    Calls Try.prog 55 #[v, .int .i64 left] w fun e w' => e = .returned (.int .i64 (szv left (fsz x))) ∧ Up w w' := sz_fact_any v x left lo hi w h.1 hok h.2 h0 h2
theorem csz_pat {v : Value} {x : FactV} {left : Int} {lo hi : Nat} {w : World} (h : Ob AF w lo hi v x) (hok : okF x) (h0 : 0 ≤ left) (h2 : left ≤ 1048576) :
    Calls Try.prog 46 #[v, .int .i64 left] w fun e w' => e = .returned (.int .i64 (szv left (fsz x))) ∧ Up w w' := sz_pat_any v x left lo hi w h.1 hok h.2 h0 h2
theorem cto_fact {v : Value} {x : FactV} {lo hi : Nat} {w : World} (h : Ob AF w lo hi v x) (hz : fsz x ≤ 1048576) :
    Calls Try.prog 57 #[v] w fun e w' => ∃ v', e = .returned v' ∧ Ob (FO 9) w' w.heap.size w'.heap.size v' x ∧ Up w w' :=
  (to_fact_any v x lo hi w h.1 h.2 (by unfold fsz tsz at hz; omega)).mono fun _ _ ⟨v', a, b, c⟩ => ⟨v', a, ⟨b, Nat.le_refl _⟩, c⟩
theorem cto_pat {v : Value} {x : FactV} {lo hi : Nat} {w : World} (h : Ob AF w lo hi v x) (hz : fsz x ≤ 1048576) :
    Calls Try.prog 48 #[v] w fun e w' => ∃ v', e = .returned v' ∧ Ob (FO 9) w' w.heap.size w'.heap.size v' x ∧ Up w w' :=
  (to_pat_any v x lo hi w h.1 h.2 (by unfold fsz tsz at hz; omega)).mono fun _ _ ⟨v', a, b, c⟩ => ⟨v', a, ⟨b, Nat.le_refl _⟩, c⟩
theorem ceq_fact {v v' : Value} {x : FactV} {lo hi lo' hi' : Nat} {w : World} (h : Ob AF w lo hi v x) (h' : Ob AF w lo' hi' v' x) :
    Calls Try.prog 50 #[v, v'] w fun e w' => e = .returned (.bool true) ∧ Up w w' := eq_fact_any v v' x lo hi lo' hi' w h.1 h'.1 h.2 h'.2
theorem ceq_pat {v v' : Value} {x : FactV} {lo hi lo' hi' : Nat} {w : World} (h : Ob AF w lo hi v x) (h' : Ob AF w lo' hi' v' x) :
    Calls Try.prog 51 #[v, v'] w fun e w' => e = .returned (.bool true) ∧ Up w w' := eq_pat_any v v' x lo hi lo' hi' w h.1 h'.1 h.2 h'.2
end Go.Proofs.Ytojgkodffmdnpaa
