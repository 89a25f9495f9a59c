/- The copies that Sorted makes of a heap's rows and places. -/
import Derived.Test.YtdelfgilcfoaoaaHeapAt
namespace Go.Proofs.Ytdelfgilcfoaoaa.Hp
open Go.RowKit

/-- a copy of a row of ints, whatever slice it lies in -/
theorem clone_ints {W : World} {A : Option Addr} {n cap : Nat} (f : Nat → Int) (hn : n ≤ 65536) (h : (A = none ∧ n = 0) ∨ ∃ b, A = some ⟨b, 0, none⟩ ∧ ∀ j, j < n → W.cell? ⟨b, j, none⟩ = some (.int .i64 (f j))) :
    Calls Try.prog 38 #[.slice A n cap] W fun e w' => ∃ v', e = .returned v' ∧ w'.ownsRow W.heap.size 3 1 v' n ((List.range n).map fun j => .int .i64 (f j)) ∧ (A ≠ none → v' ≠ .slice none 0 0) ∧ Below W.heap.size W w' := by
  rcases h with ⟨rfl, rfl⟩ | ⟨b, rfl, hc⟩
  · refine (Try.slices_Clone_int_nil 0 cap W).mono ?_
    rintro e w' ⟨rfl, rfl⟩
    exact ⟨_, rfl, ⟨rfl, .inl ⟨rfl, rfl⟩⟩, fun h => absurd rfl h, Below.refl _ _⟩
  · refine (Try.slices_Clone_int b 0 n cap ((List.range n).map f) W (by simp) (by omega) (fun j hj => ?_)).mono ?_
    · simp only [List.length_map, List.length_range] at hj
      rw [Nat.zero_add, hc j hj]
      simp [List.getD_eq_getElem?_getD, hj]
    · rintro e w' ⟨v', rfl, h1, h2, h3⟩
      refine ⟨v', rfl, ?_, fun _ => h2, h3⟩
      have he : (((List.range n).map f).take n).map (Value.int .i64) = (List.range n).map fun j => .int .i64 (f j) := by
        rw [List.take_of_length_le (by simp), List.map_map]; rfl
      rw [he] at h1; exact h1
theorem clone_shape {P : Program} {f : FuncId} {args : Array Value} {W : World} {t : TypeId} {B n : Nat} {xs : List Value} {X : Value → World → Prop}
    (h : Calls P f args W fun e w' => ∃ v', e = .returned v' ∧ w'.ownsRow B t 1 v' n xs ∧ X v' w') :
    Calls P f args W fun e w' => ∃ A c, e = .returned (.slice A n c) ∧ w'.ownsRow B t 1 (.slice A n c) n xs ∧ X (.slice A n c) w' :=
  h.mono fun e w' ⟨v', he, ho, hx⟩ => by
    rcases ho.2 with ⟨h1, h2⟩ | ⟨g, cap, cur, h1, _⟩
    · subst h1; subst h2; exact ⟨none, 0, he, ho, hx⟩
    · subst h1; exact ⟨_, cap, he, ho, hx⟩
end Go.Proofs.Ytdelfgilcfoaoaa.Hp
