/- A heap as its promises tell it: nodes, activities, who is in; which one is the first. No program in sight. -/
import Derived.Test.YtdelfgilcfoaoaaHeapPlain
namespace Go.Proofs.Ytdelfgilcfoaoaa.Hp
open Go.RowKit

structure Ab where
  n : Nat
  act : Nat → Int
  inn : Nat → Bool

def Ab.put (a : Ab) (i : Nat) : Ab := { a with inn := upd a.inn i true }
def Ab.out (a : Ab) (i : Nat) : Ab := { a with inn := upd a.inn i false }
def Ab.bump (a : Ab) (i : Nat) (d : Int) : Ab := { a with act := upd a.act i (min (a.act i + d) 1099511627776) }
def Ab.halve (a : Ab) : Ab := { a with act := fun i => a.act i / 2 }
def Ab.len (a : Ab) : Nat := cnt a.n a.inn
/-- two that say the same of each node -/
structure Ab.Eq (a b : Ab) : Prop where
  n : b.n = a.n
  act : ∀ i, i < a.n → b.act i = a.act i
  inn : ∀ i, i < a.n → b.inn i = a.inn i
theorem Ab.Eq.refl (a : Ab) : Ab.Eq a a := ⟨rfl, fun _ _ => rfl, fun _ _ => rfl⟩
theorem Ab.Eq.symm {a b : Ab} (h : Ab.Eq a b) : Ab.Eq b a := ⟨h.n.symm, fun i hi => (h.act i (by rw [← h.n]; exact hi)).symm, fun i hi => (h.inn i (by rw [← h.n]; exact hi)).symm⟩
theorem Ab.Eq.trans {a b c : Ab} (h : Ab.Eq a b) (k : Ab.Eq b c) : Ab.Eq a c :=
  ⟨k.n.trans h.n, fun i hi => (k.act i (by rw [h.n]; exact hi)).trans (h.act i hi), fun i hi => (k.inn i (by rw [h.n]; exact hi)).trans (h.inn i hi)⟩
theorem Ab.Eq.len {a b : Ab} (h : Ab.Eq a b) : b.len = a.len := by unfold Ab.len; rw [h.n]; exact cnt_congr h.inn

/-- the first of those that are in -/
structure First (a : Ab) (i : Nat) : Prop where
  lt : i < a.n
  inn : a.inn i = true
  best : ∀ j, j < a.n → a.inn j = true → j ≠ i → ahead a.act i j
theorem First.unique {a : Ab} {i j : Nat} (h : First a i) (k : First a j) : i = j := by
  rcases Nat.decEq i j with hne | he
  · exact absurd (k.best i h.lt h.inn hne) (ahead_asymm (h.best j k.lt k.inn (Ne.symm hne)))
  · exact he
theorem First.of_eq {a b : Ab} (e : Ab.Eq a b) {i : Nat} (h : First a i) : First b i := by
  refine ⟨by rw [e.n]; exact h.lt, (e.inn i h.lt).trans h.inn, fun j hj hb hne => ?_⟩
  rw [e.n] at hj
  have := h.best j hj ((e.inn j hj).symm.trans hb) hne
  unfold ahead at *
  rw [e.act i h.lt, e.act j hj]; exact this
def Empty (a : Ab) : Prop := ∀ i, i < a.n → a.inn i = false
theorem Empty.no_first {a : Ab} {i : Nat} (h : Empty a) (k : First a i) : False := by
  have := h i k.lt; rw [k.inn] at this; cases this
theorem Empty.of_eq {a b : Ab} (e : Ab.Eq a b) (h : Empty a) : Empty b := fun i hi => by rw [e.n] at hi; exact (e.inn i hi).trans (h i hi)
theorem Empty.len {a : Ab} (h : Empty a) : a.len = 0 := by
  unfold Ab.len cnt
  rw [List.length_eq_zero_iff, List.filter_eq_nil_iff]
  intro i hi
  rw [h i (List.mem_range.1 hi)]; simp
theorem Ab.Eq.out {a b : Ab} (e : Ab.Eq a b) (i : Nat) : Ab.Eq (a.out i) (b.out i) :=
  ⟨e.n, e.act, fun j hj => by simp only [Ab.out, upd]; split; rfl; exact e.inn j hj⟩
theorem First.len {a : Ab} {i : Nat} (h : First a i) : a.len = (a.out i).len + 1 :=
  cnt_on (p := (a.out i).inn) (q := a.inn) h.lt (by simp [Ab.out, upd]) h.inn (fun j _ hne => by simp [Ab.out, upd, hne])

/-- all that are in, the first one first -/
inductive Sorted : Ab → List Nat → Prop
  | nil {a : Ab} : Empty a → Sorted a []
  | cons {a : Ab} {i : Nat} {l : List Nat} : First a i → Sorted (a.out i) l → Sorted a (i :: l)
theorem Sorted.unique {a : Ab} {l : List Nat} (h : Sorted a l) : ∀ {b : Ab} {r : List Nat}, Ab.Eq a b → Sorted b r → l = r := by
  induction h with
  | nil he =>
    intro b r e k
    cases k with
    | nil _ => rfl
    | cons f _ => exact absurd (f.of_eq e.symm) (fun f => he.no_first f)
  | cons f _ ih =>
    intro b r e k
    cases k with
    | nil he => exact absurd (f.of_eq e) (fun f => he.no_first f)
    | cons g k2 =>
      have := (f.of_eq e).unique g
      subst this
      rw [ih (e.out _) k2]
theorem Sorted.len {a : Ab} {l : List Nat} (h : Sorted a l) : l.length = a.len := by
  induction h with
  | nil he => rw [he.len]; rfl
  | cons f _ ih => rw [List.length_cons, ih, f.len]
theorem Sorted.lt {a : Ab} {l : List Nat} (h : Sorted a l) : ∀ i ∈ l, i < a.n ∧ a.inn i = true := by
  induction h with
  | nil he => intro i hi; cases hi
  | @cons a j l f _ ih =>
    intro i hi
    rcases List.mem_cons.1 hi with h1 | h1
    · subst h1; exact ⟨f.lt, f.inn⟩
    · have := ih i h1
      refine ⟨this.1, ?_⟩
      have h2 := this.2
      simp only [Ab.out, upd] at h2
      split at h2
      · cases h2
      · exact h2
end Go.Proofs.Ytdelfgilcfoaoaa.Hp
