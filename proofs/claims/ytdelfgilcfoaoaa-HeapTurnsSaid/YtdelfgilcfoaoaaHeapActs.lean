/- Acts: how they lie in memory, and what they make of a heap. -/
import Derived.Test.YtdelfgilcfoaoaaHeapWakes
import Derived.Test.YtdelfgilcfoaoaaLaw
import Derived.Deep.Slices
import Derived.Deep.Fields
namespace Go.Proofs.Ytdelfgilcfoaoaa.Hp
open Go.RowKit Go.ChangeShapes Go.WideShapes Go.Deep

structure Act3 where
  dow : Int
  nd : Int
  by' : Int
def Act3.ok (x : Act3) : Prop := I64 x.dow ∧ I64 x.nd ∧ I64 x.by'
def flat (l : List Act3) : List Value := l.flatMap fun x => [.int .i64 x.dow, .int .i64 x.nd, .int .i64 x.by']
theorem flat_length (l : List Act3) : (flat l).length = l.length * 3 := by
  induction l with
  | nil => rfl
  | cons x l ih =>
    show ([Value.int .i64 x.dow, .int .i64 x.nd, .int .i64 x.by'] ++ flat l).length = _
    rw [List.length_append, ih, List.length_cons]; simp only [List.length_cons, List.length_nil]; omega
theorem flat_at (l : List Act3) (k : Nat) (x : Act3) (h : l[k]? = some x) : (flat l)[k * 3]? = some (.int .i64 x.dow) ∧ (flat l)[k * 3 + 1]? = some (.int .i64 x.nd) ∧ (flat l)[k * 3 + 2]? = some (.int .i64 x.by') := by
  induction l generalizing k with
  | nil => simp at h
  | cons y l ih =>
    cases k with
    | zero => simp at h; subst h; exact ⟨rfl, rfl, rfl⟩
    | succ k =>
      simp at h
      have := ih k h
      rw [show (k + 1) * 3 = k * 3 + 3 by omega, show k * 3 + 3 + 1 = k * 3 + 1 + 3 by omega, show k * 3 + 3 + 2 = k * 3 + 2 + 3 by omega]
      exact this
theorem flat_append (l r : List Act3) : flat (l ++ r) = flat l ++ flat r := by simp [flat]
theorem flat_one (x : Act3) : flat [x] = [.int .i64 x.dow, .int .i64 x.nd, .int .i64 x.by'] := by simp [flat]
theorem flat_cell (l : List Act3) : ∀ u ∈ flat l, u.oneCell' = true := by
  intro u hu
  obtain ⟨x, _, hx⟩ := List.mem_flatMap.1 hu
  simp at hx
  rcases hx with rfl | rfl | rfl <;> rfl

theorem list_of {α : Type} {P : Nat → α → Prop} (n : Nat) (h : ∀ i, i < n → ∃ x, P i x) : ∃ l : List α, l.length = n ∧ ∀ i x, l[i]? = some x → P i x := by
  induction n with
  | zero => exact ⟨[], rfl, fun i x hx => by simp at hx⟩
  | succ n ih =>
    obtain ⟨l, hl, hp⟩ := ih (fun i hi => h i (by omega))
    obtain ⟨x, hx⟩ := h n (by omega)
    refine ⟨l ++ [x], by simp [hl], fun i y hy => ?_⟩
    by_cases hi : i < n
    · rw [List.getElem?_append_left (by omega)] at hy; exact hp i y hy
    · rw [List.getElem?_append_right (by omega)] at hy
      by_cases e : i = n
      · subst e; rw [hl] at hy; simp at hy; subst hy; exact hx
      · rw [List.getElem?_eq_none (by simp; omega)] at hy; cases hy

theorem actCells : Try.prog.cellsOf 40 = 3 := by kernel_rfl
theorem intCells : Try.prog.cellsOf 3 = 1 := by kernel_rfl
theorem actFields : ∃ f0 f1 f2 : Field, Try.prog.underlying 40 = some (.struct #[f0, f1, f2]) ∧ f0.offset = 0 ∧ f1.offset = 1 ∧ f2.offset = 2 ∧ f0.type = 3 ∧ f1.type = 3 ∧ f2.type = 3 :=
  ⟨_, _, _, Try.underlying40, rfl, rfl, rfl, rfl, rfl, rfl⟩

section
variable {H : Type} {enc : TypeId × Value → H}
theorem open_act {w : World} {fuel : Nat} {cs : List Value} {y : DataW H × List MemPlace} (h : DataW.trod enc Try.prog w 0 (fun _ => true) true fuel 40 cs = some y) :
    ∃ x : Act3, cs = [.int .i64 x.dow, .int .i64 x.nd, .int .i64 x.by'] ∧ x.ok := by
  obtain ⟨f0, f1, f2, hu, o0, o1, o2, t0, t1, t2⟩ := actFields
  obtain ⟨ys, n, _, _, hlen, hyl, hf⟩ := DataW.trod_struct hu h
  rw [actCells] at hlen
  obtain ⟨a, b, c, rfl⟩ : ∃ a b c, cs = [a, b, c] := by
    match cs, hlen with
    | [a, b, c], _ => exact ⟨a, b, c, rfl⟩
  have hl3 : ys.length = 3 := hyl
  have g : ∀ (j : Nat) (f : Field) (v : Value), (#[f0, f1, f2] : Array Field)[j]? = some f → f.type = 3 → ([a, b, c].drop f.offset).take 1 = [v] → ∃ n, v = .int .i64 n ∧ I64 n := by
    intro j f v hj ht hv
    have h1 := hf j f hj
    rw [ht, intCells, hv] at h1
    have hjl : j < 3 := (Array.getElem?_eq_some_iff.1 hj).1
    rw [List.getElem?_eq_getElem (show j < ys.length by omega)] at h1
    obtain ⟨n, hn, _, hw⟩ := DataW.trod_int Try.underlying3 h1
    exact ⟨n, by simpa using hn, bounds_i64 hw⟩
  obtain ⟨x, rfl, hx⟩ := g 0 f0 a rfl t0 (by rw [o0]; rfl)
  obtain ⟨y, rfl, hy⟩ := g 1 f1 b rfl t1 (by rw [o1]; rfl)
  obtain ⟨z, rfl, hz⟩ := g 2 f2 c rfl t2 (by rw [o2]; rfl)
  exact ⟨⟨x, y, z⟩, rfl, hx, hy, hz⟩
theorem open_acts {W : World} {base : Nat} {v : Value} {d : DataW H} {ps : List MemPlace}
    (hval : Value.okWide Try.prog W .any base 22 v) (h : DataW.Trod enc Try.prog W 0 (fun _ => true) true 22 v d ps) :
    ∃ (A : Option Addr) (cap : Nat) (l : List Act3), v = .slice A l.length cap ∧ Cells W A (flat l) ∧ (∀ x ∈ l, x.ok) ∧ l.length ≤ cap ∧ cap ≤ maxLen := by
  obtain ⟨a, len, cap, rfl⟩ := okWide_slice Try.underlying22 hval
  obtain ⟨fuel, hf⟩ := h
  rcases open_slice Try.underlying22 hf with ⟨hcs, hx⟩ | ⟨a', len', cap', m, n, D, Pl, hcs, _, hl, hm, hmm, hx, hi⟩
  · simp only [Value.cells, List.cons.injEq, Value.slice.injEq, and_true] at hcs
    obtain ⟨rfl, rfl, rfl⟩ := hcs
    exact ⟨none, 0, [], rfl, .inl rfl, by simp, by simp, by simp⟩
  · simp only [Value.cells, List.cons.injEq, Value.slice.injEq, and_true] at hcs
    obtain ⟨rfl, rfl, rfl⟩ := hcs
    simp only [if_true] at hmm
    rw [actCells] at hi
    obtain ⟨l, hll, hlp⟩ := list_of (P := fun i (x : Act3) => x.ok ∧ W.cell? (a'.add (i * 3)) = some (.int .i64 x.dow) ∧ W.cell? (a'.add (i * 3 + 1)) = some (.int .i64 x.nd) ∧ W.cell? (a'.add (i * 3 + 2)) = some (.int .i64 x.by')) len (fun i hlt => by
      obtain ⟨cs', hc, ht⟩ := hi i (by omega)
      obtain ⟨x, rfl, hok⟩ := open_act ht
      obtain ⟨_, _, hat⟩ := World.cells?_some hc
      have h0 := hat 0 (by omega)
      have h1 := hat 1 (by omega)
      have h2 := hat 2 (by omega)
      rw [Go.Deep.add_add] at h0 h1 h2
      exact ⟨x, hok, h0, h1, h2⟩)
    refine ⟨some a', cap, l, by rw [hll], ?_, fun x hx => ?_, by omega, hm⟩
    · by_cases h0 : l = []
      · left; rw [h0]; rfl
      · right
        have hlen : 0 < l.length := List.length_pos_iff.2 h0
        have hc0 := (hlp 0 (l[0]) (List.getElem?_eq_getElem hlen)).2.1
        have hsp : a'.spot = none := by
          cases hs : a'.spot with
          | none => rfl
          | some q =>
            exfalso
            have e0 : a'.add (0 * 3) = a' := by unfold Addr.add; simp
            rw [e0] at hc0
            unfold World.cell? at hc0
            split at hc0
            · rw [hs] at hc0; simp at hc0
            · cases hc0
        obtain ⟨b, o, sp⟩ := a'
        simp only at hsp
        subst hsp
        have hadd : ∀ j, ((⟨b, o, none⟩ : Addr).add j) = ⟨b, o + j, none⟩ := fun j => by unfold Addr.add; split <;> simp_all
        refine ⟨b, o, rfl, ?_, fun j u hu => ?_⟩
        · rw [hadd] at hc0
          exact World.block_lt_of_cell? W _ hc0
        · have hj : j < (flat l).length := (List.getElem?_eq_some_iff.1 hu).1
          rw [flat_length] at hj
          have hk : j / 3 < l.length := by omega
          have hx := List.getElem?_eq_getElem hk
          obtain ⟨_, c0, c1, c2⟩ := hlp _ _ hx
          obtain ⟨g0, g1, g2⟩ := flat_at l _ _ hx
          rw [hadd] at c0 c1 c2
          have hr : j = j / 3 * 3 ∨ j = j / 3 * 3 + 1 ∨ j = j / 3 * 3 + 2 := by omega
          rcases hr with e | e | e
          · rw [e, g0] at hu; rw [e, c0]; exact hu
          · rw [e, g1] at hu; rw [e, c1]; exact hu
          · rw [e, g2] at hu; rw [e, c2]; exact hu
    · obtain ⟨i, hi2, e⟩ := List.mem_iff_getElem.1 hx
      subst e
      exact (hlp i _ (List.getElem?_eq_getElem hi2)).1
end

noncomputable def stepA (a : Ab) (x : Act3) : Ab :=
  if x.dow = 0 then putA a x.nd else if x.dow = 1 then popA a else if x.dow = 2 then bumpA a x.nd x.by' else if x.dow = 3 then a.halve else a
noncomputable def play (a : Ab) (l : List Act3) : Ab := l.foldl stepA a
theorem popA_n (a : Ab) : (popA a).n = a.n := by unfold popA; split <;> rfl
theorem stepA_n (a : Ab) (x : Act3) : (stepA a x).n = a.n := by
  unfold stepA putA bumpA
  repeat' split
  all_goals first | rfl | exact popA_n a
theorem play_n (l : List Act3) : ∀ a : Ab, (play a l).n = a.n := by
  induction l with
  | nil => intro a; rfl
  | cons x l ih => intro a; show (play (stepA a x) l).n = _; rw [ih, stepA_n]
theorem play_take {l : List Act3} {k : Nat} {x : Act3} (h : l[k]? = some x) (a : Ab) : play a (l.take (k + 1)) = stepA (play a (l.take k)) x := by
  unfold play
  rw [List.take_add_one, h]; simp
end Go.Proofs.Ytdelfgilcfoaoaa.Hp
