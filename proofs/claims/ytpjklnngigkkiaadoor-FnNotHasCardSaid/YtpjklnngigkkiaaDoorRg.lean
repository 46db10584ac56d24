/- A region that draws its order, walked one operation at a time; the operation is found in the written-out list; no condition: nothing of the program is named here. -/
import Derived.Deep.RegionHeld3
import Derived.KernelRfl
namespace Go.Proofs.YtpjklnngigkkiaaDoor
open Go
section
variable {P : Program} {L : List Oper} {Q : Exit → Act → World → Prop} {md : Region.Mode} {S : World → Prop}
theorem drop_at {α : Type} {L : List α} {i : Nat} {x : α} {r : List α} (h : L.drop i = x :: r) : L[i]? = some x := by
  have := congrArg (fun l => l[0]?) h
  simpa using this
/-- an operation that is wanted, and yields its value wherever S holds -/
theorem takeW {i : Nat} {oi : Oper} {rest : List Oper} {v : Value} {fuel : Nat} {listed : Array Bool} {a : Act} {w : World} (hd : L.drop i = oi :: rest) (hs : Region.noSelect L.toArray = true) (hf : Region.free md L.toArray listed i = true) (hr : (Region.ready md L.toArray listed).contains i = true)
    (hQ : ∀ c a w, Q (.panic c) (a.put oi.dst v) w → Q (.panic c) a w) (hw : Region.wanted oi (yielded L.toArray a.tmps) = true) (hS : S w) (hy : ∀ w, S w → (execOp a.eval oi).run P w = .ok (.value v) w)
    (h : wpAnyH P md L.toArray Q S fuel (listed.setIfInBounds i true) (a.put oi.dst v) w) : wpAnyH P md L.toArray Q S (fuel + 1) listed a w :=
  wpAnyH_take (by simpa using drop_at hd) hs hf hr hQ (Or.inl ⟨hw, hy⟩) hS h
/-- an operation whose guard is another -/
theorem takeU {i j d : Nat} {oi oj : Oper} {rest restj : List Oper} {M restv : List Value} {b want : Bool} {fuel : Nat} {listed : Array Bool} {a : Act} {w : World} (hd : L.drop i = oi :: rest) (hs : Region.noSelect L.toArray = true) (hf : Region.free md L.toArray listed i = true) (hr : (Region.ready md L.toArray listed).contains i = true)
    (hQ : ∀ c a w, Q (.panic c) (a.put oi.dst undef) w → Q (.panic c) a w) (hg : oi.guard = some (j, want)) (hj : L.drop j = oj :: restj) (ht : oj.dst = some d) (hM : a.tmps = M.toArray) (hv : M.drop d = .bool b :: restv) (hb : (b == want) = false) (hS : S w)
    (h : wpAnyH P md L.toArray Q S fuel (listed.setIfInBounds i true) (a.put oi.dst undef) w) : wpAnyH P md L.toArray Q S (fuel + 1) listed a w :=
  wpAnyH_take (by simpa using drop_at hd) hs hf hr hQ (Or.inr ⟨by
    have h1 := drop_at hj
    have h2 := drop_at hv
    unfold Region.wanted yielded
    rw [hg, hM]
    simp [h1, ht, h2, hb], rfl⟩) hS h
/-- an operation whose guard was itself not wanted -/
theorem takeN {i j d : Nat} {oi oj : Oper} {rest restj : List Oper} {M restv : List Value} {want : Bool} {fuel : Nat} {listed : Array Bool} {a : Act} {w : World} (hd : L.drop i = oi :: rest) (hs : Region.noSelect L.toArray = true) (hf : Region.free md L.toArray listed i = true) (hr : (Region.ready md L.toArray listed).contains i = true)
    (hQ : ∀ c a w, Q (.panic c) (a.put oi.dst undef) w → Q (.panic c) a w) (hg : oi.guard = some (j, want)) (hj : L.drop j = oj :: restj) (ht : oj.dst = some d) (hM : a.tmps = M.toArray) (hv : M.drop d = undef :: restv) (hS : S w)
    (h : wpAnyH P md L.toArray Q S fuel (listed.setIfInBounds i true) (a.put oi.dst undef) w) : wpAnyH P md L.toArray Q S (fuel + 1) listed a w :=
  wpAnyH_take (by simpa using drop_at hd) hs hf hr hQ (Or.inr ⟨by
    have h1 := drop_at hj
    have h2 := drop_at hv
    unfold Region.wanted yielded
    rw [hg, hM]
    simp [h1, ht, h2, undef], rfl⟩) hS h
/-- a call that alone may come up -/
theorem comeC {i : Nat} {oi : Oper} {rest : List Oper} {fuel : Nat} {listed : Array Bool} {a : Act} {w : World} (hd : L.drop i = oi :: rest) (hr : Region.ready md L.toArray listed = [i]) (hw : Region.wanted oi (yielded L.toArray a.tmps) = true)
    (h : ∀ K' : Act → World → Prop, Shut (∀ a w, S w → (S w → wpAnyH P md L.toArray Q S fuel (listed.setIfInBounds i true) a w) → K' a w) → Oper.wp P oi a w K' Q) : wpAnyH P md L.toArray Q S (fuel + 1) listed a w :=
  wpAnyH_ready (rs := [i]) hr (by simp) (AllReadyH.cons (by simpa using drop_at hd) (fun K hK => by rw [if_pos hw]; exact h K hK) AllReadyH.nil)
/-- one of several that may come up -/
theorem comeA {i : Nat} {oi : Oper} {rest : List Oper} {rs : List Nat} {fuel : Nat} {listed : Array Bool} {a : Act} {w : World} (hd : L.drop i = oi :: rest) (hw : Region.wanted oi (yielded L.toArray a.tmps) = true)
    (h : ∀ K' : Act → World → Prop, Shut (∀ a w, S w → (S w → wpAnyH P md L.toArray Q S fuel (listed.setIfInBounds i true) a w) → K' a w) → Oper.wp P oi a w K' Q)
    (hs : AllReadyH P md L.toArray Q S fuel listed a w rs) : AllReadyH P md L.toArray Q S fuel listed a w (i :: rs) :=
  AllReadyH.cons (by simpa using drop_at hd) (fun K hK => by rw [if_pos hw]; exact h K hK) hs
end
end Go.Proofs.YtpjklnngigkkiaaDoor
