/- Short words for the steps of regions that draw their order, used by the merged texts (wip/merge.py). -/
import Derived.Test.YtmcbolkpbklfeaaGreatDoorBase
import Derived.Deep.RegionHeld
namespace Go.Proofs.YtmcbolkpbklfeaaGreatDoor
open Go.RowKit

section
variable {P : Program} {ops : Array Oper} {Q : Exit → Act → World → Prop} {md : Region.Mode} {S : World → Prop} {fuel : Nat} {listed : Array Bool} {a : Act} {w : World} {d : Option Tmp} {op : Op} {t : TypeId} {pos : String} {af : Array Edge} {g : Option (Nat × Bool)}
theorem tk (i : Nat) {v : Value} (hy : ∀ w, S w → (execOp a.eval (Oper.mk d op t pos af g)).run P w = .ok (.value v) w) (h : wpAnyH P md ops Q S fuel (listed.setIfInBounds i true) (a.put (Oper.mk d op t pos af g).dst v) w)
    (hi : ops[i]? = some (Oper.mk d op t pos af g) := by rfl) (hs : Region.noSelect ops = true := by kernel_rfl) (hf : Region.free md ops listed i = true := by kernel_rfl) (hr : (Region.ready md ops listed).contains i = true := by kernel_rfl)
    (hQ : ∀ c a w, Q (.panic c) (a.put (Oper.mk d op t pos af g).dst v) w → Q (.panic c) a w := by exact fun _ _ _ h => h) (hw : Region.wanted (Oper.mk d op t pos af g) (yielded ops a.tmps) = true := by rfl) (hS : S w := by assumption) :
    wpAnyH P md ops Q S (fuel + 1) listed a w := wpAnyH_take hi hs hf hr hQ (.inl ⟨hw, hy⟩) hS h
def wl (_ : List Nat) (X : Prop) : Prop := X
theorem plz (is : List Nat) {X : Prop} (h : wl is X) : X := h
theorem pzz {X : Prop} (h : X) : wl [] X := h
theorem tnz {i : Nat} {is : List Nat} {v : Value} (hy : ∀ w, S w → (execOp a.eval (Oper.mk d op t pos af g)).run P w = .ok (.value v) w) (h : wl is (wpAnyH P md ops Q S fuel (listed.setIfInBounds i true) (a.put (Oper.mk d op t pos af g).dst v) w))
    (hi : ops[i]? = some (Oper.mk d op t pos af g) := by rfl) (hs : Region.noSelect ops = true := by kernel_rfl) (hf : Region.free md ops listed i = true := by kernel_rfl) (hr : (Region.ready md ops listed).contains i = true := by kernel_rfl)
    (hQ : ∀ c a w, Q (.panic c) (a.put (Oper.mk d op t pos af g).dst v) w → Q (.panic c) a w := by exact fun _ _ _ h => h) (hw : Region.wanted (Oper.mk d op t pos af g) (yielded ops a.tmps) = true := by rfl) (hS : S w := by assumption) :
    wl (i :: is) (wpAnyH P md ops Q S (fuel + 1) listed a w) := wpAnyH_take hi hs hf hr hQ (.inl ⟨hw, hy⟩) hS h
theorem r2y (i j : Nat) {d' : Option Tmp} {op' : Op} {t' : TypeId} {pos' : String} {af' : Array Edge} {g' : Option (Nat × Bool)} (h : ∀ K' : Act → World → Prop, Shut (∀ a w, S w → (S w → wpAnyH P md ops Q S fuel (listed.setIfInBounds i true) a w) → K' a w) → if Region.wanted (Oper.mk d op t pos af g) (yielded ops a.tmps) = true then Oper.wp P (Oper.mk d op t pos af g) a w K' Q else K' (a.put (Oper.mk d op t pos af g).dst undef) w)
    (h' : ∀ K' : Act → World → Prop, Shut (∀ a w, S w → (S w → wpAnyH P md ops Q S fuel (listed.setIfInBounds j true) a w) → K' a w) → if Region.wanted (Oper.mk d' op' t' pos' af' g') (yielded ops a.tmps) = true then Oper.wp P (Oper.mk d' op' t' pos' af' g') a w K' Q else K' (a.put (Oper.mk d' op' t' pos' af' g').dst undef) w)
    (hr : Region.ready md ops listed = [i, j] := by kernel_rfl) (hi : ops[i]? = some (Oper.mk d op t pos af g) := by rfl) (hj : ops[j]? = some (Oper.mk d' op' t' pos' af' g') := by rfl) : wpAnyH P md ops Q S (fuel + 1) listed a w :=
  wpAnyH_ready hr (by simp) (AllReadyH.cons hi h (AllReadyH.cons hj h' AllReadyH.nil))
theorem dnz (h : Q .normal a w) (hr : Region.ready md ops listed = [] := by kernel_rfl) : wpAnyH P md ops Q S fuel listed a w := wpAnyH_done hr h _
theorem sk (i : Nat) (h : wpAnyH P md ops Q S fuel (listed.setIfInBounds i true) (a.put (Oper.mk d op t pos af g).dst undef) w)
    (hi : ops[i]? = some (Oper.mk d op t pos af g) := by rfl) (hs : Region.noSelect ops = true := by kernel_rfl) (hf : Region.free md ops listed i = true := by kernel_rfl) (hr : (Region.ready md ops listed).contains i = true := by kernel_rfl)
    (hQ : ∀ c a w, Q (.panic c) (a.put (Oper.mk d op t pos af g).dst undef) w → Q (.panic c) a w := by exact fun _ _ _ h => h) (hw : Region.wanted (Oper.mk d op t pos af g) (yielded ops a.tmps) = false := by rfl) (hS : S w := by assumption) :
    wpAnyH P md ops Q S (fuel + 1) listed a w := wpAnyH_take hi hs hf hr hQ (.inr ⟨hw, rfl⟩) hS h
theorem rd (i : Nat) (h : ∀ K' : Act → World → Prop, Shut (∀ a w, S w → (S w → wpAnyH P md ops Q S fuel (listed.setIfInBounds i true) a w) → K' a w) → if Region.wanted (Oper.mk d op t pos af g) (yielded ops a.tmps) = true then Oper.wp P (Oper.mk d op t pos af g) a w K' Q else K' (a.put (Oper.mk d op t pos af g).dst undef) w)
    (hr : Region.ready md ops listed = [i] := by kernel_rfl) (hi : ops[i]? = some (Oper.mk d op t pos af g) := by rfl) : wpAnyH P md ops Q S (fuel + 1) listed a w :=
  wpAnyH_ready hr (by simp) (AllReadyH.cons hi h AllReadyH.nil)
theorem brq (w : World) : Below w.heap.size w w := Below.refl _ _
theorem nlq {n : Nat} : n ≤ n := Nat.le_refl n
theorem gqe {α : Type} {l : List α} {i : Nat} (h : i < l.length) : l[i]? = some l[i] := List.getElem?_eq_getElem h
theorem gqs {α : Type} {l : List α} {i : Nat} {a : α} (h : l[i]? = some a) : ∃ h : i < l.length, l[i] = a := List.getElem?_eq_some_iff.1 h
theorem mgq {α : Type} {l : List α} {i : Nat} {a : α} (h : l[i]? = some a) : a ∈ l := List.mem_of_getElem? h
theorem dfq {p : Prop} [Decidable p] (h : ¬ p) : decide p = false := decide_eq_false h
theorem aiq {b c i j : Nat} (h : (some ⟨b, i, none⟩ : Option Addr) = some ⟨c, j, none⟩) : b = c ∧ i = j := by simpa using h
theorem kp {p : Prop} (h : p) : Hid p := Lib.hid h
theorem pt : (∀ (a : Act) (d : Tmp) (v : Value), a.put (some d) v = { a with tmps := a.tmps.setIfInBounds d v }) ∧ (∀ (a : Act) (v : Value), a.put none v = a) ∧ (∀ (l : List Value) (i : Nat) (a : Value), l.toArray.setIfInBounds i a = (l.set i a).toArray) ∧ (∀ (a b : Value) (l : List Value), (a :: l).set 0 b = b :: l) ∧ (∀ (a b : Value) (l : List Value) (n : Nat), (a :: l).set (n + 1) b = a :: l.set n b) :=
  ⟨fun _ _ _ => rfl, fun _ _ => rfl, fun l i a => by simp, fun _ _ _ => rfl, fun _ _ _ _ => rfl⟩
end
end Go.Proofs.YtmcbolkpbklfeaaGreatDoor
