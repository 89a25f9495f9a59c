import Derived.Test.YtpmdcckapddchaaGreatShort
import Derived.Test.YtpmdcckapddchaaGreatMa
import Derived.OwnWalk
import Derived.Test.YtpmdcckapddchaaGreatMd
import Derived.Test.YtpmdcckapddchaaGreatMc
import Derived.Deep.Cut
import Derived.Maps.OwnSet
import Derived.Maps.Views
import Derived.Maps.Keyed
import Derived.MapViews
import Derived.DeepKeys4
import Derived.Test.YtpmdcckapddchaaGreatBase
import Derived.Maps.AppendAt
import Derived.RegionTactic
import Derived.ArgAppend
/- merged by wip/merge.py from: Blk RowOk ElNum Maps KeyMap Own2 Own3 Equal -/
/- Blocks known whole: their cells, what a new one is, what a store makes of one. No condition. -/
namespace Go.Proofs.YtpmdcckapddchaaGreat.Bk
open Go.RowKit

theorem new (w : World) (o : Obj) : (w.alloc o).heap[w.heap.size]? = some o := Array.getElem?_push_size
theorem keep {w : World} {b : Nat} {x : Obj} (h : w.heap[b]? = some x) (o : Obj) : (w.alloc o).heap[b]? = some x := (Below.heap_alloc w o b (lt_of_block h)).trans h
theorem on {w w' : World} {b : Nat} {x : Obj} (h : w.heap[b]? = some x) (hb : Below w.heap.size w w') : w'.heap[b]? = some x := (hb.block b (lt_of_block h)).trans h
theorem on' {w w' : World} {b B : Nat} {x : Obj} (h : w.heap[b]? = some x) (hb : Below B w w') (hB : b < B) : w'.heap[b]? = some x := (hb.block b hB).trans h
theorem apart {w : World} {b : Nat} {x : Obj} (h : w.heap[b]? = some x) {p : Addr} (hp : b ≠ p.block) (u : Value) : (w.setCell p u).heap[b]? = some x := (Below.heap_setCell w p u b hp).trans h
theorem set_at {w : World} {b : Nat} {cs : Array Value} {t : TypeId} {fr : Nat × Nat} (h : w.heap[b]? = some (.cells cs t fr)) (j : Nat) (u : Value) : (w.setCell ⟨b, j, none⟩ u).heap[b]? = some (.cells (cs.setIfInBounds j u) t fr) := by
 simp [World.setCell, Array.getElem?_modify, h]
theorem c1 {w : World} {b : Nat} {a0 : Value} {t : TypeId} (h : w.heap[b]? = some (.cells #[a0] t (0, 0))) : w.cell? ⟨b, 0, none⟩ = some a0 ∧ ∀ j, w.frozen? ⟨b, j, none⟩ = false :=
 ⟨by rw [cell_of_cells h]; rfl, fun j => frozen_of_cells h j⟩
theorem c2 {w : World} {b : Nat} {a0 a1 : Value} {t : TypeId} (h : w.heap[b]? = some (.cells #[a0, a1] t (0, 0))) : w.cell? ⟨b, 0, none⟩ = some a0 ∧ w.cell? ⟨b, 1, none⟩ = some a1 ∧ ∀ j, w.frozen? ⟨b, j, none⟩ = false :=
 ⟨by rw [cell_of_cells h]; rfl, by rw [cell_of_cells h]; rfl, fun j => frozen_of_cells h j⟩
theorem c3 {w : World} {b : Nat} {a0 a1 a2 : Value} {t : TypeId} (h : w.heap[b]? = some (.cells #[a0, a1, a2] t (0, 0))) : w.cell? ⟨b, 0, none⟩ = some a0 ∧ w.cell? ⟨b, 1, none⟩ = some a1 ∧ w.cell? ⟨b, 2, none⟩ = some a2 ∧ ∀ j, w.frozen? ⟨b, j, none⟩ = false :=
 ⟨by rw [cell_of_cells h]; rfl, by rw [cell_of_cells h]; rfl, by rw [cell_of_cells h]; rfl, fun j => frozen_of_cells h j⟩
theorem c4 {w : World} {b : Nat} {a0 a1 a2 a3 : Value} {t : TypeId} (h : w.heap[b]? = some (.cells #[a0, a1, a2, a3] t (0, 0))) : w.cell? ⟨b, 0, none⟩ = some a0 ∧ w.cell? ⟨b, 1, none⟩ = some a1 ∧ w.cell? ⟨b, 2, none⟩ = some a2 ∧ w.cell? ⟨b, 3, none⟩ = some a3 ∧ ∀ j, w.frozen? ⟨b, j, none⟩ = false :=
 ⟨by rw [cell_of_cells h]; rfl, by rw [cell_of_cells h]; rfl, by rw [cell_of_cells h]; rfl, by rw [cell_of_cells h]; rfl, fun j => frozen_of_cells h j⟩
theorem c5 {w : World} {b : Nat} {a0 a1 a2 a3 a4 : Value} {t : TypeId} (h : w.heap[b]? = some (.cells #[a0, a1, a2, a3, a4] t (0, 0))) : w.cell? ⟨b, 0, none⟩ = some a0 ∧ w.cell? ⟨b, 1, none⟩ = some a1 ∧ w.cell? ⟨b, 2, none⟩ = some a2 ∧ w.cell? ⟨b, 3, none⟩ = some a3 ∧ w.cell? ⟨b, 4, none⟩ = some a4 ∧ ∀ j, w.frozen? ⟨b, j, none⟩ = false :=
 ⟨by rw [cell_of_cells h]; rfl, by rw [cell_of_cells h]; rfl, by rw [cell_of_cells h]; rfl, by rw [cell_of_cells h]; rfl, by rw [cell_of_cells h]; rfl, fun j => frozen_of_cells h j⟩
theorem c6 {w : World} {b : Nat} {a0 a1 a2 a3 a4 a5 : Value} {t : TypeId} (h : w.heap[b]? = some (.cells #[a0, a1, a2, a3, a4, a5] t (0, 0))) : w.cell? ⟨b, 0, none⟩ = some a0 ∧ w.cell? ⟨b, 1, none⟩ = some a1 ∧ w.cell? ⟨b, 2, none⟩ = some a2 ∧ w.cell? ⟨b, 3, none⟩ = some a3 ∧ w.cell? ⟨b, 4, none⟩ = some a4 ∧ w.cell? ⟨b, 5, none⟩ = some a5 ∧ ∀ j, w.frozen? ⟨b, j, none⟩ = false :=
 ⟨by rw [cell_of_cells h]; rfl, by rw [cell_of_cells h]; rfl, by rw [cell_of_cells h]; rfl, by rw [cell_of_cells h]; rfl, by rw [cell_of_cells h]; rfl, by rw [cell_of_cells h]; rfl, fun j => frozen_of_cells h j⟩
theorem c7 {w : World} {b : Nat} {a0 a1 a2 a3 a4 a5 a6 : Value} {t : TypeId} (h : w.heap[b]? = some (.cells #[a0, a1, a2, a3, a4, a5, a6] t (0, 0))) : w.cell? ⟨b, 0, none⟩ = some a0 ∧ w.cell? ⟨b, 1, none⟩ = some a1 ∧ w.cell? ⟨b, 2, none⟩ = some a2 ∧ w.cell? ⟨b, 3, none⟩ = some a3 ∧ w.cell? ⟨b, 4, none⟩ = some a4 ∧ w.cell? ⟨b, 5, none⟩ = some a5 ∧ w.cell? ⟨b, 6, none⟩ = some a6 ∧ ∀ j, w.frozen? ⟨b, j, none⟩ = false :=
 ⟨by rw [cell_of_cells h]; rfl, by rw [cell_of_cells h]; rfl, by rw [cell_of_cells h]; rfl, by rw [cell_of_cells h]; rfl, by rw [cell_of_cells h]; rfl, by rw [cell_of_cells h]; rfl, by rw [cell_of_cells h]; rfl, fun j => frozen_of_cells h j⟩
theorem c8 {w : World} {b : Nat} {a0 a1 a2 a3 a4 a5 a6 a7 : Value} {t : TypeId} (h : w.heap[b]? = some (.cells #[a0, a1, a2, a3, a4, a5, a6, a7] t (0, 0))) : w.cell? ⟨b, 0, none⟩ = some a0 ∧ w.cell? ⟨b, 1, none⟩ = some a1 ∧ w.cell? ⟨b, 2, none⟩ = some a2 ∧ w.cell? ⟨b, 3, none⟩ = some a3 ∧ w.cell? ⟨b, 4, none⟩ = some a4 ∧ w.cell? ⟨b, 5, none⟩ = some a5 ∧ w.cell? ⟨b, 6, none⟩ = some a6 ∧ w.cell? ⟨b, 7, none⟩ = some a7 ∧ ∀ j, w.frozen? ⟨b, j, none⟩ = false :=
 ⟨by rw [cell_of_cells h]; rfl, by rw [cell_of_cells h]; rfl, by rw [cell_of_cells h]; rfl, by rw [cell_of_cells h]; rfl, by rw [cell_of_cells h]; rfl, by rw [cell_of_cells h]; rfl, by rw [cell_of_cells h]; rfl, by rw [cell_of_cells h]; rfl, fun j => frozen_of_cells h j⟩
theorem c9 {w : World} {b : Nat} {a0 a1 a2 a3 a4 a5 a6 a7 a8 : Value} {t : TypeId} (h : w.heap[b]? = some (.cells #[a0, a1, a2, a3, a4, a5, a6, a7, a8] t (0, 0))) : w.cell? ⟨b, 0, none⟩ = some a0 ∧ w.cell? ⟨b, 1, none⟩ = some a1 ∧ w.cell? ⟨b, 2, none⟩ = some a2 ∧ w.cell? ⟨b, 3, none⟩ = some a3 ∧ w.cell? ⟨b, 4, none⟩ = some a4 ∧ w.cell? ⟨b, 5, none⟩ = some a5 ∧ w.cell? ⟨b, 6, none⟩ = some a6 ∧ w.cell? ⟨b, 7, none⟩ = some a7 ∧ w.cell? ⟨b, 8, none⟩ = some a8 ∧ ∀ j, w.frozen? ⟨b, j, none⟩ = false :=
 ⟨by rw [cell_of_cells h]; rfl, by rw [cell_of_cells h]; rfl, by rw [cell_of_cells h]; rfl, by rw [cell_of_cells h]; rfl, by rw [cell_of_cells h]; rfl, by rw [cell_of_cells h]; rfl, by rw [cell_of_cells h]; rfl, by rw [cell_of_cells h]; rfl, by rw [cell_of_cells h]; rfl, fun j => frozen_of_cells h j⟩
end Go.Proofs.YtpmdcckapddchaaGreat.Bk
/- Rows that a call has made, of elements that lie in memory of the call's own, each in blocks between two places. No condition. -/
namespace Go.Proofs.YtpmdcckapddchaaGreat
open Go.RowKit

def SameIn (lo hi : Nat) (w W : World) : Prop := ∀ b, lo ≤ b → b < hi → W.heap[b]? = w.heap[b]?
theorem SameIn.refl (lo hi : Nat) (w : World) : SameIn lo hi w w := fun _ _ _ => rfl
theorem SameIn.part {lo hi l2 h2 : Nat} {w W : World} (h : SameIn lo hi w W) (h1 : lo ≤ l2) (h3 : h2 ≤ hi) : SameIn l2 h2 w W := fun b a c => h b (by omega) (by omega)
theorem SameIn.trans {lo hi : Nat} {w W V : World} (h : SameIn lo hi w W) (k : SameIn lo hi W V) : SameIn lo hi w V := fun b a c => (k b a c).trans (h b a c)
theorem SameIn.of_below {lo hi : Nat} {w W : World} (h : Below w.heap.size w W) (hh : hi ≤ w.heap.size) : SameIn lo hi w W := fun b _ c => h.block b (by omega)
theorem SameIn.setCell (lo hi : Nat) (w : World) (p : Addr) (u : Value) (hp : p.block < lo ∨ hi ≤ p.block) : SameIn lo hi w (w.setCell p u) := fun b a c => Below.heap_setCell w p u b (by omega)
theorem SameIn.keeps {S : Nat → Prop} {lo hi : Nat} {w W : World} (h : Keeps S w W) (hh : hi ≤ w.heap.size) (hS : ∀ b, lo ≤ b → b < hi → ¬ S b) : SameIn lo hi w W := fun b a c => h.block b (by omega) (hS b a c)
section
variable {α : Type} {n : Nat} {val : α → List Value} {Ok : World → α → Prop}
def InOk (Ok : World → α → Prop) (lo hi : Nat) (w : World) (y : α) : Prop := lo ≤ hi ∧ hi ≤ w.heap.size ∧ ∀ W, SameIn lo hi w W → Ok W y
theorem InOk.on {lo hi : Nat} {w W : World} {y : α} (h : InOk Ok lo hi w y) (hs : SameIn lo hi w W) (hz : w.heap.size ≤ W.heap.size) : InOk Ok lo hi W y := ⟨h.1, by have := h.2.1; omega, fun V hV => h.2.2 V (hs.trans hV)⟩
theorem InOk.below {lo hi : Nat} {w W : World} {y : α} (h : InOk Ok lo hi w y) (hb : Below w.heap.size w W) : InOk Ok lo hi W y := h.on (SameIn.of_below hb h.2.1) hb.size
theorem InOk.wide {lo hi l2 h2 : Nat} {w : World} {y : α} (h : InOk Ok lo hi w y) (h1 : l2 ≤ lo) (h3 : hi ≤ h2) (h4 : h2 ≤ w.heap.size) : InOk Ok l2 h2 w y := ⟨by have := h.1; omega, h4, fun W hW => h.2.2 W (hW.part h1 h3)⟩
theorem InOk.now {lo hi : Nat} {w : World} {y : α} (h : InOk Ok lo hi w y) : Ok w y := h.2.2 w (SameIn.refl _ _ _)
def flatV (val : α → List Value) : List α → List Value
 | [] => []
 | y :: r => val y ++ flatV val r
theorem flatV_append (a b : List α) : flatV val (a ++ b) = flatV val a ++ flatV val b := by
 induction a with
 | nil => rfl
 | cons x a ih => simp only [List.cons_append, flatV, ih, List.append_assoc]
theorem flatV_snoc (a : List α) (y : α) : flatV val (a ++ [y]) = flatV val a ++ val y := by rw [flatV_append]; simp [flatV]
theorem flatV_len (hv : ∀ y, (val y).length = n) : ∀ ys : List α, (flatV val ys).length = ys.length * n
 | [] => by simp [flatV]
 | y :: r => by simp only [flatV, List.length_append, List.length_cons, hv, flatV_len hv r, Nat.succ_mul]; omega
theorem flatV_at (hv : ∀ y, (val y).length = n) : ∀ (ys : List α) (i : Nat) (y : α), ys[i]? = some y → ∀ j u, (val y)[j]? = some u → (flatV val ys)[i * n + j]? = some u
 | [], i, y, h => by simp at h
 | y0 :: r, 0, y, h => fun j u hu => by
  simp at h
  subst h
  have hj := (List.getElem?_eq_some_iff.1 hu).1
  rw [Nat.zero_mul, Nat.zero_add]
  show (val y0 ++ flatV val r)[j]? = some u
  rw [List.getElem?_append_left hj]; exact hu
 | y0 :: r, i + 1, y, h => fun j u hu => by
  have h' : r[i]? = some y := by simpa using h
  have := flatV_at hv r i y h' j u hu
  show (val y0 ++ flatV val r)[(i + 1) * n + j]? = some u
  rw [List.getElem?_append_right (by rw [hv, Nat.succ_mul]; omega), hv, Nat.succ_mul, show i * n + n + j - n = i * n + j by omega]
  exact this
structure RowOk (n : Nat) (val : α → List Value) (Ok : World → α → Prop) (base : Nat) (t : TypeId) (w : World) (v : Value) (ys : List α) : Prop where
 own : w.ownsRow base t n v ys.length (flatV val ys)
 bits : ∀ y ∈ ys, ∃ lo hi, base ≤ lo ∧ InOk Ok lo hi w y ∧ ∀ g, v.ownBlock = some g → ¬ (lo ≤ g ∧ g < hi)
variable {base : Nat} {t : TypeId} {w w' : World} {v : Value} {ys : List α}
theorem RowOk.nil (w : World) : RowOk n val Ok base t w (.slice none 0 0) ([] : List α) := ⟨⟨by simp [flatV], .inl ⟨rfl, rfl⟩⟩, fun y hy => by cases hy⟩
theorem RowOk.lt (h : RowOk n val Ok base t w v ys) : ∀ g, v.ownBlock = some g → base ≤ g ∧ g < w.heap.size := h.own.lt
theorem RowOk.shape (h : RowOk n val Ok base t w v ys) : ∃ A c, v = .slice A ys.length c ∧ ys.length ≤ c ∧ c ≤ maxLen := by
 rcases h.own.2 with ⟨h1, h2⟩ | ⟨g, cap, cur, h1, _, _, h2, h3, _⟩
 ·exact ⟨none, 0, by rw [h2]; exact h1, by omega, by unfold maxLen; omega⟩
 ·exact ⟨_, cap, h1, h2, h3⟩
theorem RowOk.keep {S : Nat → Prop} (h : RowOk n val Ok base t w v ys) (hk : Keeps S w w') (hS : ∀ b, S b → b < base) : RowOk n val Ok base t w' v ys := by
 refine ⟨⟨h.own.1, ?_⟩, fun y hy => ?_⟩
 ·rcases h.own.2 with h1 | ⟨g, cap, cur, h1, hg, hat, h2⟩
  ·exact .inl h1
  ·exact .inr ⟨g, cap, cur, h1, hg, (hk.block g (lt_of_block hat) (fun hs => by have := hS g hs; omega)).trans hat, h2⟩
 ·obtain ⟨lo, hi, h1, h2, h3⟩ := h.bits y hy
  exact ⟨lo, hi, h1, h2.on (SameIn.keeps hk h2.2.1 (fun b a _ hs => by have := hS b hs; omega)) hk.size, h3⟩
theorem RowOk.below (h : RowOk n val Ok base t w v ys) (hb : Below w.heap.size w w') : RowOk n val Ok base t w' v ys := h.keep (Keeps.of_below hb (fun _ => False)) (fun _ h => h.elim)
theorem RowOk.push {v' : Value} {y : α} {lo hi : Nat} (h : RowOk n val Ok base t w v ys) (ho : w'.ownsRow base t n v' (ys.length + 1) (flatV val ys ++ val y)) (hg : w.grownBy w' v.ownBlock)
  (hat : v'.ownBlock = v.ownBlock ∨ v'.ownBlock = some w.heap.size) (hlo : base ≤ lo) (hy : InOk Ok lo hi w y) (hno : ∀ g, v.ownBlock = some g → ¬ (lo ≤ g ∧ g < hi)) : RowOk n val Ok base t w' v' (ys ++ [y]) := by
 have hsame : ∀ l2 h2, h2 ≤ w.heap.size → (∀ g, v.ownBlock = some g → ¬ (l2 ≤ g ∧ g < h2)) → SameIn l2 h2 w w' := fun l2 h2 hz hn b a c => hg.block b (by omega) (fun e => hn b e.symm ⟨a, c⟩)
 have hown : ∀ l2 h2, h2 ≤ w.heap.size → (∀ g, v.ownBlock = some g → ¬ (l2 ≤ g ∧ g < h2)) → ∀ g, v'.ownBlock = some g → ¬ (l2 ≤ g ∧ g < h2) := fun l2 h2 hz hn g he => by
  rcases hat with e | e
  ·exact hn g (e ▸ he)
  ·rw [e] at he; cases he; omega
 refine ⟨by rw [List.length_append, flatV_snoc]; exact ho, fun z hz => ?_⟩
 rcases List.mem_append.1 hz with hz | hz
 ·obtain ⟨l2, h2, a, b, c⟩ := h.bits z hz
  exact ⟨l2, h2, a, b.on (hsame l2 h2 b.2.1 c) hg.size, hown l2 h2 b.2.1 c⟩
 ·obtain rfl : z = y := by simpa using hz
  exact ⟨lo, hi, hlo, hy.on (hsame lo hi hy.2.1 hno) hg.size, hown lo hi hy.2.1 hno⟩
theorem RowOk.lies {α' : Type} {A : Option Addr} {k c : Nat} {R : World → List Value → α' → Prop} {f : α → α'} (hv : ∀ y, (val y).length = n) (hR : ∀ W y, Ok W y → R W (val y) (f y))
  (h : RowOk n val Ok base t w (.slice A k c) ys) {W : World} (hW : SameIn base w.heap.size w W) : Lies n R W A (ys.map f) := by
 rcases h.own.2 with ⟨h1, h2⟩ | ⟨g, cap, cur, h1, hg, hat, h2, h3, h4, h5⟩
 ·exact .inl (by rw [List.map_eq_nil_iff]; exact List.length_eq_zero_iff.1 h2)
 ·simp only [Value.slice.injEq] at h1
  have hgl := lt_of_block hat
  have hat' := (hW g hg hgl).trans hat
  refine .inr ⟨g, 0, h1.1, lt_of_block hat', fun i x hx => ?_⟩
  rw [List.getElem?_map] at hx
  cases hy : ys[i]? with
  | none => rw [hy] at hx; cases hx
  | some y =>
   rw [hy] at hx
   obtain rfl : f y = x := by simpa using hx
   obtain ⟨lo, hi, a, b, _⟩ := h.bits y (List.mem_of_getElem? hy)
   refine ⟨val y, hv y, fun j u hu => ?_, hR W y (b.2.2 W (hW.part a b.2.1))⟩
   rw [Nat.zero_add, cell_of_row W g (i * n + j) cur t (0, 0) hat']
   have := flatV_at hv ys i y hy j u hu
   rw [← h5, List.getElem?_take] at this
   split at this
   ·simpa using this
   ·cases this
end
end Go.Proofs.YtpmdcckapddchaaGreat
/- An expression's numeral: the program's answer. No condition. -/
namespace Go.Proofs.YtpmdcckapddchaaGreat.El
open Go.RowKit Go.Proofs.YtpmdcckapddchaaGreat.Dt Go.Proofs.YtpmdcckapddchaaGreat.Sg

def XAt (w : World) (A : Option Addr) (c : Nat) (x : Sexp) : Prop := SexpR w [.int .i8 x.kind, .string x.text, .slice A x.l.length c] x
theorem XAt.on {w w' : World} {A : Option Addr} {c : Nat} {x : Sexp} (h : XAt w A c x) (hb : Below w.heap.size w w') : XAt w' A c x := SexpR.lasts _ _ _ _ hb h
theorem XAt.opens {w : World} {A : Option Addr} {c : Nat} {x : Sexp} (h : XAt w A c x) : Lies 3 SexpR w A x.l ∧ x.l.length ≤ c ∧ c ≤ maxLen ∧ (x.text.size : Int) ≤ 140737488351232 ∧ x.l.length * 48 ≤ 140737488351232 ∧ (Lit.int .i8 x.kind).wf = true := by
 obtain ⟨A0, c0, e0, hl, h2, h3, h4, h5, h6⟩ := SexpR.open' h
 simp only [List.cons.injEq, Value.slice.injEq, and_true, true_and] at e0
 obtain ⟨rfl, rfl⟩ := e0
 exact ⟨hl, h2, h3, h4, h5, h6⟩
def numR (x : Sexp) : Int × Bool × Int := match numN x with
 | some (n, e) => (n, true, e)
 | none => (0, false, 0)
theorem parseV_lim (l : List UInt8) : 0 ≤ parseV l ∧ parseV l ≤ 4611686018427387904 := by
 unfold parseV
 split
 ·rename_i hn
  unfold isNum at hn
  simp only [Bool.and_eq_true] at hn
  have := putAll_le l hn.2
  split <;> omega
 ·omega
theorem tl_true {t : ByteArray} {l : List UInt8} (h : t = ⟨l.toArray⟩) : (t.toList == l) = true := by
 rw [h, Lx.bs_toList]; unfold Lx.bs; simp
theorem tl_false {t : ByteArray} {l : List UInt8} (h : t ≠ ⟨l.toArray⟩) : (t.toList == l) = false := by
 rw [beq_eq_false_iff_ne]
 intro e
 rw [Lx.bs_toList] at e
 unfold Lx.bs at e
 exact h (ByteArray.ext (Array.toList_inj.1 (by rw [e])))
def NumPost (x : Sexp) (w : World) (e : Ending) (w' : World) : Prop := e = .returned (.tuple #[.int .i64 (numR x).1, .bool (numR x).2.1, .int .i64 (numR x).2.2]) ∧ Below w.heap.size w w'
set_option maxRecDepth 100000 in
set_option maxHeartbeats 1600000 in
theorem numeralX_any {w : World} {A : Option Addr} {c : Nat} {x : Sexp} (h : XAt w A c x) :
  Calls Tryz.prog 76 #[.agg #[.int .i8 x.kind, .string x.text, .slice A x.l.length c]] w (NumPost x w) := by
 have HP := kp (show ∀ n b e w', numR x = (n, b, e) → Below w.heap.size w w' → NumPost x w (.returned (.tuple #[.int .i64 n, .bool b, .int .i64 e])) w' from fun n b e w' h1 h2 => by unfold NumPost; rw [h1]; exact ⟨rfl, h2⟩)
 obtain ⟨hl, hc, hcm, ht, hlb, hk⟩ := h.opens
 have HL := kp hl
 have HX := kp h
 have HN := kp (show numR x = match numN x with | some (n, e) => (n, true, e) | none => (0, false, 0) from rfl)
 have HNN := kp (show numN x = if x.kind = 1 then some (parseV (Lx.bs x.text), parseE (Lx.bs x.text))
  else if headS x = sMinus then match x.l with
   | [_, y] => if y.kind = 1 then some (- parseV (Lx.bs y.text), parseE (Lx.bs y.text)) else none
   | _ => none
  else none from rfl)
 have HH := kp (fun W (hW : Below w.heap.size w W) => head_any (h.on hW))
 have XB := kp (Bk.new w (.cells #[.int .i8 x.kind, .string x.text, .slice A x.l.length c] 30))
 have B1 := kp ((Below.refl w.heap.size w).alloc (Nat.le_refl _) (.cells #[.int .i8 x.kind, .string x.text, .slice A x.l.length c] 30))
 have hk128 : -128 ≤ x.kind ∧ x.kind ≤ 127 := by simp [Lit.wf] at hk; exact hk
 clear h hl
 generalize NumPost x w = PP at *
 generalize numR x = res at *
 generalize numN x = nx at *
 go_enter Tryz.func76, Tryz.ntmps76
 go_upto_region 1 with fail
 generalize w.alloc (.cells #[.int .i8 x.kind, .string x.text, .slice A x.l.length c] 30) = w1 at *
 obtain ⟨q0, q1, q2, qf⟩ := Bk.c3 XB.out
 by_cases h1 : x.kind = 1
 ·have h1' : (x.kind == 1) = true := by simp [h1]
  replace HNN := kp (HNN.out.trans (if_pos h1))
  rw [HNN.out] at HN
  have HPr := kp (fun W => parse_any x.text (by omega) W)
  clear h1
  go_wp2_with fail
  refine (HPr.out w1).mono ?_
  rintro e w2 ⟨rfl, hb⟩
  have B2 := kp (B1.out.trans (hb.mono B1.out.size))
  clear hb
  go_wp2_with fail
  go_ret3
  exact HP.out _ _ _ _ HN.out B2.out
 ·have h1' : (x.kind == 1) = false := by simp [h1]
  replace HNN := kp (HNN.out.trans (if_neg h1))
  clear h1
  go_wp2_with fail
  refine (HH.out w1 B1.out).mono ?_
  rintro e w2 ⟨rfl, hb⟩
  have B2 := kp (B1.out.trans (hb.mono B1.out.size))
  have X2 := kp (Bk.on XB.out hb)
  clear hb q0 q1 q2 qf
  obtain ⟨q0, q1, q2, qf⟩ := Bk.c3 X2.out
  by_cases h2 : headS x = sMinus
  ·replace HNN := kp (HNN.out.trans (if_pos h2))
   by_cases h3 : x.l.length = 2
   ·obtain ⟨y0, y, hxl⟩ : ∃ y0 y, x.l = [y0, y] := by
     match hx : x.l, h3 with
     | [y0, y], _ => exact ⟨y0, y, rfl⟩
    obtain ⟨b, o, A', c', rfl, hbl, e0, e1, e2, hr⟩ := sexp_cells (HL.out.on SexpR.lasts B2.out) (k := 1) (y := y) (by rw [hxl]; rfl)
    rw [hxl] at HNN
    replace HNN := kp (show nx = if y.kind = 1 then some (- parseV (Lx.bs y.text), parseE (Lx.bs y.text)) else none from HNN.out)
    obtain ⟨_, _, _, hyt, _, hyk⟩ := XAt.opens hr
    have h2' : ((headS x).toList == [45]) = true := tl_true h2
    have h3' : ((x.l.length : Int) == 2) = true := by rw [h3]; rfl
    have h3'' : (1 : Int) < (x.l.length : Int) := by omega
    clear h2 h3
    rw [Nat.one_mul] at e0 e1 e2
    clear hxl
    by_cases h4 : y.kind = 1
    ·have h4' : (y.kind == 1) = true := by simp [h4]
     replace HNN := kp (HNN.out.trans (if_pos h4))
     rw [HNN.out] at HN
     have HPr := kp (fun W => parse_any y.text (by omega) W)
     have hlim := parseV_lim (Lx.bs y.text)
     unfold Lx.bs at hlim HN
     generalize parseV y.text.data.toList = v at *
     generalize parseE y.text.data.toList = ve at *
     clear h4
     go_wp2_with fail
     refine (HPr.out w2).mono ?_
     rintro e w3 ⟨rfl, hb⟩
     have B3 := kp (B2.out.trans (hb.mono B2.out.size))
     clear hb
     go_wp2_with fail
     go_ret3
     exact HP.out _ _ _ _ HN.out B3.out
    ·have h4' : (y.kind == 1) = false := by simp [h4]
     replace HNN := kp (HNN.out.trans (if_neg h4))
     rw [HNN.out] at HN
     clear h4
     go_wp2_with fail
     go_ret3
     exact HP.out _ _ _ _ HN.out B2.out
   ·have h3' : ((x.l.length : Int) == 2) = false := by rw [beq_eq_false_iff_ne]; omega
    have HNo := kp (show nx = none by
     rw [HNN.out]
     match hx : x.l, h3 with
     | [], _ => rfl
     | [_], _ => rfl
     | _ :: _ :: _ :: _, _ => rfl)
    rw [HNo.out] at HN
    have h2' : ((headS x).toList == [45]) = true := tl_true h2
    clear h2
    go_wp2_with fail
    go_ret3
    exact HP.out _ _ _ _ HN.out B2.out
  ·replace HNN := kp (HNN.out.trans (if_neg h2))
   rw [HNN.out] at HN
   have h2' : ((headS x).toList == [45]) = false := tl_false h2
   go_wp2_with fail
   go_ret3
   exact HP.out _ _ _ _ HN.out B2.out
end Go.Proofs.YtpmdcckapddchaaGreat.El
/- Maps of the call's own, told by what stands at which key. No condition. -/
namespace Go.Proofs.YtpmdcckapddchaaGreat
open Go.RowKit Go.Maps

theorem plainElem_bool_inv {P : Program} {e : TypeId} (he : P.underlying e = some .bool) {v : Value} {z : DataW Unit × List MemPlace} (h : plainElem P e v = some z) : ∃ b, v = .bool b ∧ z = (.lit (.bool b), []) := by
 unfold plainElem at h
 rw [he] at h
 split at h
 ·rename_i x _; cases h; exact ⟨_, rfl, rfl⟩
 all_goals simp_all
def BoolMap (P : Program) (k e : TypeId) (w : World) (b n : Nat) (S : Value → Prop) : Prop :=
 ∃ D : DataW Unit, w.ownsMap P k (plainElem P e) b n D ∧ ∀ key kl, keyOf P k key = some kl → ∃ c, D.atKey kl (.lit (.bool false)) = .lit (.bool c) ∧ (c = true ↔ S key)
section
variable {P : Program} {k e t : TypeId} {w : World} {b n : Nat} {S : Value → Prop}
theorem BoolMap.made (w : World) (P : Program) (k e : TypeId) : BoolMap P k e (w.alloc (.map #[] 0)) w.heap.size 0 (fun _ => False) :=
 ⟨.map [], World.ownsMap_made w P k _, fun _ _ _ => ⟨false, rfl, by simp⟩⟩
theorem BoolMap.kept {w' : World} {row : Option Nat} (h : BoolMap P k e w b n S) (hg : w.grownBy w' row) (hne : some b ≠ row) : BoolMap P k e w' b n S := by
 obtain ⟨D, h1, h2⟩ := h
 exact ⟨D, h1.kept hg hne, h2⟩
theorem BoolMap.lt (h : BoolMap P k e w b n S) : b < w.heap.size := by obtain ⟨D, h1, _⟩ := h; exact h1.lt
theorem BoolMap.alloc (h : BoolMap P k e w b n S) (o : Obj) : BoolMap P k e (w.alloc o) b n S := by obtain ⟨D, h1, h2⟩ := h; exact ⟨D, h1.alloc o, h2⟩
theorem BoolMap.keeps {T : Nat → Prop} {w' : World} (h : BoolMap P k e w b n S) (hk : Keeps T w w') (hT : ¬ T b) : BoolMap P k e w' b n S := by
 obtain ⟨D, ⟨es, clock, hb, r⟩, h2⟩ := h
 exact ⟨D, ⟨es, clock, (hk.block b (lt_of_block hb) hT).trans hb, r⟩, h2⟩
theorem BoolMap.below {w' : World} (h : BoolMap P k e w b n S) (hb : Below w.heap.size w w') : BoolMap P k e w' b n S := h.keeps (Keeps.of_below hb (fun _ => False)) id
theorem BoolMap.imp {S' : Value → Prop} (h : BoolMap P k e w b n S) (hS : ∀ x, S x ↔ S' x) : BoolMap P k e w b n S' := by
 obtain ⟨D, h1, h2⟩ := h
 exact ⟨D, h1, fun key kl hk => by obtain ⟨c, a, r⟩ := h2 key kl hk; exact ⟨c, a, r.trans (hS key)⟩⟩
theorem BoolMap.look (h : BoolMap P k e w b n S) (K : Keyed P k) (ht : P.underlying t = some (.map k e)) (he : P.underlying e = some .bool) (hz : ∀ w, (zeroValue e).run P w = .ok (.bool false) w) {key : Value} {kl : Lit} (hkey : keyOf P k key = some kl) :
  ∃ c, (Instr.lookup t (.map (some b)) key false).run P w = .ok (.bool c) w ∧ (c = true ↔ S key) := by
 obtain ⟨D, h1, h2⟩ := h
 obtain ⟨v, ps, hrun, hv⟩ := h1.lookup K ht (hz w) (plainElem_bool he false) hkey
 obtain ⟨c, hc, hS⟩ := h2 key kl hkey
 obtain ⟨c', rfl, hc'⟩ := plainElem_bool_inv he hv
 rw [hc] at hc'
 simp at hc'
 exact ⟨c', hrun, by rw [← hc'.1]; exact hS⟩
theorem BoolMap.store (h : BoolMap P k e w b n S) (K : Keyed P k) (ht : P.underlying t = some (.map k e)) (he : P.underlying e = some .bool) (hn : n < maxLen) {key : Value} {kl : Lit} (hkey : keyOf P k key = some kl) :
  ∃ w', (Instr.mapUpdate t (.map (some b)) key (.bool true)).run P w = .ok () w' ∧ BoolMap P k e w' b (n + 1) (fun x => x = key ∨ S x) ∧ w.grownBy w' (some b) := by
 obtain ⟨D, h1, h2⟩ := h
 obtain ⟨w', hrun, h3, h4⟩ := h1.update K ht hn hkey (plainElem_bool he true)
 refine ⟨w', hrun, ⟨_, h3, fun x xl hx => ?_⟩, h4⟩
 by_cases hq : xl = kl
 ·subst hq
  have hxk : x = key := K.inj hx hkey
  exact ⟨true, atKey_put_same h1.isMap (K.key hkey) _ _, by simp [hxk]⟩
 ·obtain ⟨c, hc, hS⟩ := h2 x xl hx
  refine ⟨c, (atKey_put_other hq _ _).trans hc, hS.trans ⟨.inr, fun h => h.elim (fun e => ?_) id⟩⟩
  subst e; rw [hx] at hkey; exact absurd (Option.some.inj hkey) hq
end
theorem zero_bool (w : World) : (zeroValue 4).run Tryz.prog w = .ok (.bool false) w := by kernel_rfl
theorem string_key : Keyed Tryz.prog 9 := string_keyed Tryz.underlying9
theorem keyOf_str {s : ByteArray} (hs : (s.size : Int) ≤ 140737488351232) : keyOf Tryz.prog 9 (.string s) = some (.string s.data.toList) := WideMaps.keyOf_string_mk Tryz.underlying9 (by unfold maxLen; omega)
end Go.Proofs.YtpmdcckapddchaaGreat
/- Maps of the call's own from plain keys to whatever values, told by what stands at which key. No condition. -/
namespace Go.Proofs.YtpmdcckapddchaaGreat
open Go.RowKit Go.Maps

def heldR (v : Value) : Option (DataW Value × List MemPlace) := some (.held v, [])
def KeyMap {κ : Type} (kt : TypeId) (key : κ → Value) (w : World) (b n : Nat) (F : κ → Option Value) : Prop :=
 ∃ D : DataW Value, w.ownsMap Tryz.prog kt heldR b n D ∧ ∀ a kl, keyOf Tryz.prog kt (key a) = some kl → Maps.has D kl = (F a).isSome ∧ ∀ z, D.atKey kl (.held z) = .held ((F a).getD z)
section
variable {κ : Type} {kt e t : TypeId} {key : κ → Value} {w w' : World} {b n : Nat} {F : κ → Option Value} {a : κ}
theorem KeyMap.made (w : World) : KeyMap kt key (w.alloc (.map #[] 0)) w.heap.size 0 (fun _ => none) := ⟨.map [], World.ownsMap_made w _ _ _, fun _ _ _ => ⟨rfl, fun _ => rfl⟩⟩
theorem KeyMap.keeps {T : Nat → Prop} (h : KeyMap kt key w b n F) (hk : Keeps T w w') (hT : ¬ T b) : KeyMap kt key w' b n F := by
 obtain ⟨D, ⟨es, clock, hb, r⟩, h2⟩ := h
 exact ⟨D, ⟨es, clock, (hk.block b (lt_of_block hb) hT).trans hb, r⟩, h2⟩
theorem KeyMap.below (h : KeyMap kt key w b n F) (hb : Below w.heap.size w w') : KeyMap kt key w' b n F := h.keeps (Keeps.of_below hb (fun _ => False)) id
theorem KeyMap.lt (h : KeyMap kt key w b n F) : b < w.heap.size := by obtain ⟨D, h1, _⟩ := h; exact h1.lt
theorem KeyMap.kept {row : Option Nat} (h : KeyMap kt key w b n F) (hg : w.grownBy w' row) (hne : some b ≠ row) : KeyMap kt key w' b n F := by
 obtain ⟨D, h1, h2⟩ := h
 exact ⟨D, h1.kept hg hne, h2⟩
theorem KeyMap.look (h : KeyMap kt key w b n F) (K : Keyed Tryz.prog kt) (ht : Tryz.prog.underlying t = some (.map kt e)) {z : Value} (hz : (zeroValue e).run Tryz.prog w = .ok z w) {kl : Lit} (hkl : keyOf Tryz.prog kt (key a) = some kl) :
  (Instr.lookup t (.map (some b)) (key a) true).run Tryz.prog w = .ok (.tuple #[(F a).getD z, .bool (F a).isSome]) w := by
 obtain ⟨D, h1, h3⟩ := h
 obtain ⟨q1, q2⟩ := h3 a kl hkl
 obtain ⟨v, ps, hrun, hv⟩ := h1.look_ok K ht hz (show heldR z = some (.held z, []) from rfl) hkl
 rw [q2 z] at hv
 unfold heldR at hv
 simp at hv
 rw [q1, hv.1] at hrun
 exact hrun
theorem KeyMap.get (h : KeyMap kt key w b n F) (K : Keyed Tryz.prog kt) (ht : Tryz.prog.underlying t = some (.map kt e)) {z : Value} (hz : (zeroValue e).run Tryz.prog w = .ok z w) {kl : Lit} (hkl : keyOf Tryz.prog kt (key a) = some kl) :
  (Instr.lookup t (.map (some b)) (key a) false).run Tryz.prog w = .ok ((F a).getD z) w := by
 obtain ⟨D, h1, h3⟩ := h
 obtain ⟨q1, q2⟩ := h3 a kl hkl
 obtain ⟨v, ps, hrun, hv⟩ := h1.lookup K ht hz (show heldR z = some (.held z, []) from rfl) hkl
 rw [q2 z] at hv
 unfold heldR at hv
 simp at hv
 rw [hv.1] at hrun
 exact hrun
theorem KeyMap.store [DecidableEq κ] (h : KeyMap kt key w b n F) (K : Keyed Tryz.prog kt) (inj : ∀ x y, key x = key y → x = y) (ht : Tryz.prog.underlying t = some (.map kt e)) (hn : n < maxLen) {kl : Lit} (hkl : keyOf Tryz.prog kt (key a) = some kl) (v : Value) :
  ∃ w', (Instr.mapUpdate t (.map (some b)) (key a) v).run Tryz.prog w = .ok () w' ∧ KeyMap kt key w' b (n + 1) (fun x => if x = a then some v else F x) ∧ w.grownBy w' (some b) := by
 obtain ⟨D, h1, h3⟩ := h
 obtain ⟨w', hrun, q1, q2⟩ := h1.update K ht hn hkl (show heldR v = some (.held v, []) from rfl)
 refine ⟨w', hrun, ⟨_, q1, fun x xl hx => ?_⟩, q2⟩
 by_cases hq : xl = kl
 ·subst hq
  have hxa : x = a := inj _ _ (K.inj hx hkl)
  simp only [if_pos hxa]
  exact ⟨has_put_same h1.isMap (K.key hkl) _, fun z => atKey_put_same h1.isMap (K.key hkl) _ _⟩
 ·have hne : x ≠ a := fun e => by subst e; rw [hx] at hkl; exact hq (Option.some.inj hkl)
  simp only [if_neg hne]
  obtain ⟨r1, r2⟩ := h3 x xl hx
  exact ⟨(has_put_other hq _).trans r1, fun z => (atKey_put_other hq _ _).trans (r2 z)⟩
end
end Go.Proofs.YtpmdcckapddchaaGreat
/- Append onto a row of the call's own, whatever slice is put behind it, in a list and in a region that draws: the new row's block is told. No condition. -/
namespace Go.Proofs.YtpmdcckapddchaaGreat
open Go.RowKit

section
variable {P : Program} {w : World}

theorem run_append_at (base : Nat) (t ty e : TypeId) (i : TypeInfo) (z : Value) (size bytes : Nat) (ht : P.underlying t = some (.slice e)) (hi : P.info? e = some i) (hz : i.zero = some z)
  (hsize : i.size = size) (hby : i.bytes = bytes) (hzs : z.cells.size = size) (hsz : 0 < size) (v : Value) (n : Nat) (xs : List Value) (hown : w.ownsRow base e size v n xs)
  (A : Option Addr) (m c : Nat) (news : List Value) (hl : news.length = m * size) (hA : Cells w A news) (h1 : ∀ u ∈ news, u.oneCell' = true)
  (h63 : n + m ≤ maxLen) (hbytes : (n + m) * bytes ≤ 140737488355328) (hbase : base ≤ w.heap.size) :
  ∃ v' w', (Builtin.append_ #[t, t] ty #[v, .slice A m c]).run P w = .ok v' w' ∧ w'.ownsRow base e size v' (n + m) (xs ++ news) ∧ w.grownBy w' v.ownBlock ∧ (v'.ownBlock = v.ownBlock ∨ v'.ownBlock = some w.heap.size) := by
 have go : ∀ ad : Addr, A = some ad → (∀ j u, news[j]? = some u → w.cell? (ad.add j) = some u) →
   ∃ v' w', (Builtin.append_ #[t, t] ty #[v, .slice A m c]).run P w = .ok v' w' ∧ w'.ownsRow base e size v' (n + m) (xs ++ news) ∧ w.grownBy w' v.ownBlock ∧ (v'.ownBlock = v.ownBlock ∨ v'.ownBlock = some w.heap.size) := by
  intro ad hA hc
  subst hA
  obtain ⟨v', w', hr, ho, hg, _, hat⟩ := run_append_own_at (P := P) w base t ty e i z size bytes ht hi hz hsize hby hzs hsz v n xs hown ad m c news hl hc h1 h63 hbytes hbase
  exact ⟨v', w', hr, ho, hg, hat⟩
 rcases hA with h0 | ⟨b, o, hA, _, hc⟩
 ·subst h0
  have hm : m = 0 := by
   rcases Nat.eq_zero_or_pos m with h | h
   ·exact h
   ·simp at hl; have := Nat.mul_pos h hsz; omega
  subst hm
  cases A with
  | some ad => exact go ad rfl (fun j u hu => by simp at hu)
  | none =>
   refine ⟨v, w, ?_, by simpa using hown, World.grownBy.refl w _, .inl rfl⟩
   rcases hown.2 with ⟨rfl, rfl⟩ | ⟨g, cap, cur, rfl, _, _, hnc, _⟩
   ·simp [Builtin.append_, run_underlying ht, sizeOf, typeInfo, hi, Builtin.lenOf, Builtin.firstCells]
   ·simp [Builtin.append_, run_underlying ht, sizeOf, typeInfo, hi, Builtin.lenOf, Builtin.firstCells, hnc, storeCells]
 ·refine go ⟨b, o, none⟩ hA (fun j u hu => ?_)
  have : ((⟨b, o, none⟩ : Addr).add j) = ⟨b, o + j, none⟩ := by unfold Addr.add; split <;> simp_all
  rw [this]; exact hc j u hu

theorem wp_append_at {o : Oper} {a : Act} {K : Act → World → Prop} {Q : Exit → Act → World → Prop} (s x : Operand) (t : TypeId)
  (ho : o.op = .call { callee := .builtin .append, args := #[s, x], argTypes := #[t, t] })
  (base : Nat) (e : TypeId) (i : TypeInfo) (z : Value) (size bytes : Nat) (ht : P.underlying t = some (.slice e)) (hi : P.info? e = some i) (hz : i.zero = some z)
  (hsize : i.size = size) (hby : i.bytes = bytes) (hzs : z.cells.size = size) (hsz : 0 < size) (v : Value) (n : Nat) (xs : List Value) (hs : a.eval s = v) (hown : w.ownsRow base e size v n xs)
  (A : Option Addr) (m c : Nat) (news : List Value) (hx : a.eval x = .slice A m c) (hl : news.length = m * size) (hA : Cells w A news) (h1 : ∀ u ∈ news, u.oneCell' = true)
  (h63 : n + m ≤ maxLen) (hbytes : (n + m) * bytes ≤ 140737488355328) (hbase : base ≤ w.heap.size)
  (h : ∀ v' w', w'.ownsRow base e size v' (n + m) (xs ++ news) → w.grownBy w' v.ownBlock → (v'.ownBlock = v.ownBlock ∨ v'.ownBlock = some w.heap.size) → K (a.put o.dst v') w') : o.wp P a w K Q := by
 obtain ⟨v', w', hrun, h2, h3, h4⟩ := run_append_at (P := P) (w := w) base t o.type e i z size bytes ht hi hz hsize hby hzs hsz v n xs hown A m c news hl hA h1 h63 hbytes hbase
 unfold Oper.wp execOp
 simp only [ho, resolve, invoke, builtin, Sem.run_bind, Sem.run_pure, Result.andThen_ok, List.map_toArray, List.map_cons, List.map_nil, hs, hx, hrun]
 exact h v' w' h2 h3 h4

theorem wpList_append_at {ops : Array Oper} {rest : List Oper} {o : Oper} {a : Act} {Q : Exit → Act → World → Prop} (hgd : o.guard = none) (s x : Operand) (t : TypeId)
  (ho : o.op = .call { callee := .builtin .append, args := #[s, x], argTypes := #[t, t] })
  (base : Nat) (e : TypeId) (i : TypeInfo) (z : Value) (size bytes : Nat) (ht : P.underlying t = some (.slice e)) (hi : P.info? e = some i) (hz : i.zero = some z)
  (hsize : i.size = size) (hby : i.bytes = bytes) (hzs : z.cells.size = size) (hsz : 0 < size) (v : Value) (n : Nat) (xs : List Value) (hs : a.eval s = v) (hown : w.ownsRow base e size v n xs)
  (A : Option Addr) (m c : Nat) (news : List Value) (hx : a.eval x = .slice A m c) (hl : news.length = m * size) (hA : Cells w A news) (h1 : ∀ u ∈ news, u.oneCell' = true)
  (h63 : n + m ≤ maxLen) (hbytes : (n + m) * bytes ≤ 140737488355328) (hbase : base ≤ w.heap.size)
  (h : ∀ v' w', w'.ownsRow base e size v' (n + m) (xs ++ news) → w.grownBy w' v.ownBlock → (v'.ownBlock = v.ownBlock ∨ v'.ownBlock = some w.heap.size) → wpList P ops Q rest (a.put o.dst v') w') : wpList P ops Q (o :: rest) a w :=
 wpList_plain hgd fun _ hK => wp_append_at s x t ho base e i z size bytes ht hi hz hsize hby hzs hsz v n xs hs hown A m c news hx hl hA h1 h63 hbytes hbase fun v' w' h2 h3 h4 => hK _ _ (h v' w' h2 h3 h4)

theorem step_append_at {ops : Array Oper} {o : Oper} {a : Act} {K : Act → World → Prop} {Q : Exit → Act → World → Prop} {E : Prop} (hgd : o.guard = none) (s x : Operand) (t : TypeId)
  (ho : o.op = .call { callee := .builtin .append, args := #[s, x], argTypes := #[t, t] })
  (base : Nat) (e : TypeId) (i : TypeInfo) (z : Value) (size bytes : Nat) (ht : P.underlying t = some (.slice e)) (hi : P.info? e = some i) (hz : i.zero = some z)
  (hsize : i.size = size) (hby : i.bytes = bytes) (hzs : z.cells.size = size) (hsz : 0 < size) (v : Value) (n : Nat) (xs : List Value) (hs : a.eval s = v) (hown : w.ownsRow base e size v n xs)
  (A : Option Addr) (m c : Nat) (news : List Value) (hx : a.eval x = .slice A m c) (hl : news.length = m * size) (hA : Cells w A news) (h1 : ∀ u ∈ news, u.oneCell' = true)
  (h63 : n + m ≤ maxLen) (hbytes : (n + m) * bytes ≤ 140737488355328) (hbase : base ≤ w.heap.size)
  (h : ∀ v' w', w'.ownsRow base e size v' (n + m) (xs ++ news) → w.grownBy w' v.ownBlock → (v'.ownBlock = v.ownBlock ∨ v'.ownBlock = some w.heap.size) → K (a.put o.dst v') w') :
  if Region.wanted o (yielded ops a.tmps) = true then Oper.wp P o a w K Q else E := by
 have hw : Region.wanted o (yielded ops a.tmps) = true := by simp [Region.wanted, hgd]
 rw [if_pos hw]
 exact wp_append_at s x t ho base e i z size bytes ht hi hz hsize hby hzs hsz v n xs hs hown A m c news hx hl hA h1 h63 hbytes hbase h
end
end Go.Proofs.YtpmdcckapddchaaGreat
/- Append onto a slice that is full, whoever made it: a new row; a row of equal parts as one list of cells. No condition. -/
namespace Go.Proofs.YtpmdcckapddchaaGreat
open Go.RowKit

section
variable {P : Program} {w : World}
theorem wp_append_full {o : Oper} {a : Act} {K : Act → World → Prop} {Q : Exit → Act → World → Prop} (s x : Operand) (t : TypeId)
  (ho : o.op = .call { callee := .builtin .append, args := #[s, x], argTypes := #[t, t] })
  (e : TypeId) (i : TypeInfo) (z : Value) (size bytes : Nat) (ht : P.underlying t = some (.slice e)) (hi : P.info? e = some i) (hz : i.zero = some z)
  (hsize : i.size = size) (hby : i.bytes = bytes) (hzs : z.cells.size = size) (hsz : 0 < size) (b : Addr) (n cap : Nat) (olds : List Value) (hs : a.eval s = .slice (some b) n cap) (hlo : olds.length = n * size) (holds : ∀ j u, olds[j]? = some u → w.cell? (b.add j) = some u)
  (ad : Addr) (m c : Nat) (news : List Value) (hx : a.eval x = .slice (some ad) m c) (hl : news.length = m * size) (hnews : ∀ j u, news[j]? = some u → w.cell? (ad.add j) = some u)
  (hfull : cap < n + m) (h63 : n + m ≤ maxLen) (hbytes : (n + m) * bytes ≤ 140737488355328)
  (h : ∀ v' w', w'.ownsRow w.heap.size e size v' (n + m) (olds ++ news) → w.grownBy w' none → K (a.put o.dst v') w') : o.wp P a w K Q := by
 obtain ⟨v', w', hrun, h2, h3⟩ := run_append_arg_grows (P := P) w t o.type e i z size bytes ht hi hz hsize hby hzs hsz b n cap olds hlo holds ad m c news hl hnews hfull h63 hbytes
 unfold Oper.wp execOp
 simp only [ho, resolve, invoke, builtin, Sem.run_bind, Sem.run_pure, Result.andThen_ok, List.map_toArray, List.map_cons, List.map_nil, hs, hx, hrun]
 exact h v' w' h2 h3
theorem step_append_full {ops : Array Oper} {o : Oper} {a : Act} {K : Act → World → Prop} {Q : Exit → Act → World → Prop} {E : Prop} (hgd : o.guard = none) (s x : Operand) (t : TypeId)
  (ho : o.op = .call { callee := .builtin .append, args := #[s, x], argTypes := #[t, t] })
  (e : TypeId) (i : TypeInfo) (z : Value) (size bytes : Nat) (ht : P.underlying t = some (.slice e)) (hi : P.info? e = some i) (hz : i.zero = some z)
  (hsize : i.size = size) (hby : i.bytes = bytes) (hzs : z.cells.size = size) (hsz : 0 < size) (b : Addr) (n cap : Nat) (olds : List Value) (hs : a.eval s = .slice (some b) n cap) (hlo : olds.length = n * size) (holds : ∀ j u, olds[j]? = some u → w.cell? (b.add j) = some u)
  (ad : Addr) (m c : Nat) (news : List Value) (hx : a.eval x = .slice (some ad) m c) (hl : news.length = m * size) (hnews : ∀ j u, news[j]? = some u → w.cell? (ad.add j) = some u)
  (hfull : cap < n + m) (h63 : n + m ≤ maxLen) (hbytes : (n + m) * bytes ≤ 140737488355328)
  (h : ∀ v' w', w'.ownsRow w.heap.size e size v' (n + m) (olds ++ news) → w.grownBy w' none → K (a.put o.dst v') w') :
  if Region.wanted o (yielded ops a.tmps) = true then Oper.wp P o a w K Q else E := by
 have hw : Region.wanted o (yielded ops a.tmps) = true := by simp [Region.wanted, hgd]
 rw [if_pos hw]
 exact wp_append_full s x t ho e i z size bytes ht hi hz hsize hby hzs hsz b n cap olds hs hlo holds ad m c news hx hl hnews hfull h63 hbytes h
end
theorem row_shape {w : World} {base s n : Nat} {t : TypeId} {v : Value} {vals : List Value} (ho : w.ownsRow base t s v n vals) : ∃ A c, v = .slice A n c := by
 rcases ho.2 with ⟨h1, h2⟩ | ⟨g, cap, cur, h1, _⟩
 ·exact ⟨none, 0, by rw [h2]; exact h1⟩
 ·exact ⟨_, cap, h1⟩
section
variable {α : Type} {n : Nat} {R : World → List Value → α → Prop} {val : α → List Value} {w : World}
theorem rowAt_cells (hv : ∀ vs x, R w vs x → vs = val x) : ∀ {xs : List α} {b o : Nat}, RowAt n R w b o xs → ∀ j u, (flatV val xs)[j]? = some u → w.cell? ⟨b, o + j, none⟩ = some u
 | [], b, o, _, j, u, h => by simp [flatV] at h
 | x :: xs, b, o, hr, j, u, h => by
  obtain ⟨vs, h1, h2, h3⟩ := hr 0 x rfl
  obtain rfl := hv vs x h3
  unfold flatV at h
  by_cases hj : j < (val x).length
  ·rw [List.getElem?_append_left hj] at h
   have := h2 j u h
   rwa [Nat.zero_mul, Nat.add_zero] at this
  ·rw [List.getElem?_append_right (by omega)] at h
   have hr' : RowAt n R w b (o + n) xs := fun i y hy => by
    obtain ⟨vs, e1, e2, e3⟩ := hr (i + 1) y (by simpa using hy)
    exact ⟨vs, e1, fun k v hk => by have := e2 k v hk; rwa [show o + (i + 1) * n + k = o + n + i * n + k by rw [Nat.succ_mul]; omega] at this, e3⟩
   have := rowAt_cells hv hr' _ u h
   rwa [h1, show o + n + (j - n) = o + j by omega] at this
theorem lies_cells {xs : List α} {b o : Nat} (hv : ∀ vs x, R w vs x → vs = val x) (h : Lies n R w (some ⟨b, o, none⟩) xs) : ∀ j u, (flatV val xs)[j]? = some u → w.cell? ⟨b, o + j, none⟩ = some u := by
 rcases h with h | ⟨b', o', hA, _, hr⟩
 ·subst h; intro j u hu; simp [flatV] at hu
 ·simp only [Option.some.injEq, Addr.mk.injEq, and_true] at hA
  obtain ⟨rfl, rfl⟩ := hA
  exact rowAt_cells hv hr
theorem owns_lies' {base k : Nat} {t : TypeId} {A : Option Addr} {c : Nat} {xs : List α} (hv : ∀ x, (val x).length = n) (hR : ∀ W x, x ∈ xs → R W (val x) x) (ho : w.ownsRow base t n (.slice A k c) xs.length (flatV val xs)) {W : World} (hW : ∀ b, base ≤ b → b < w.heap.size → W.heap[b]? = w.heap[b]?) : Lies n R W A xs := by
 rcases ho.2 with ⟨h1, h2⟩ | ⟨g, cap, cur, h1, hg, hat, h2, h3, h4, h5⟩
 ·exact .inl (List.length_eq_zero_iff.1 h2)
 ·simp only [Value.slice.injEq] at h1
  have hat' := (hW g hg (lt_of_block hat)).trans hat
  refine .inr ⟨g, 0, h1.1, lt_of_block hat', fun i x hx => ⟨val x, hv x, fun j u hu => ?_, hR W x (List.mem_of_getElem? hx)⟩⟩
  rw [Nat.zero_add, cell_of_row W g (i * n + j) cur t (0, 0) hat']
  have := flatV_at hv xs i x hx j u hu
  rw [← h5, List.getElem?_take] at this
  split at this
  ·simpa using this
  ·cases this
end
end Go.Proofs.YtpmdcckapddchaaGreat
/- Lists that are the same, element by element. No condition. -/
namespace Go.Proofs.YtpmdcckapddchaaGreat
open Go.RowKit

noncomputable def eqB {α : Type} (a b : α) : Bool := @decide (a = b) (Classical.propDecidable _)
theorem eqB_true {α : Type} {a b : α} : eqB a b = true ↔ a = b := @decide_eq_true_iff (a = b) (Classical.propDecidable _)
theorem eqB_false {α : Type} {a b : α} : eqB a b = false ↔ a ≠ b := @decide_eq_false_iff_not (a = b) (Classical.propDecidable _)
section
variable {α : Type} {xs ys : List α} {k : Nat} {d : α}
theorem eqB_len (h : ¬ xs.length = ys.length) : eqB xs ys = false := eqB_false.2 fun e => h (by rw [e])
theorem eqB_full (h : xs.length = ys.length) (ht : xs.take xs.length = ys.take xs.length) : eqB xs ys = true :=
 eqB_true.2 (by rw [List.take_length, h, List.take_length] at ht; exact ht)
theorem eqB_next {x y : α} (hx : xs[k]? = some x) (hy : ys[k]? = some y) : (x = y → xs.take k = ys.take k → xs.take (k + 1) = ys.take (k + 1)) ∧ (x ≠ y → eqB xs ys = false) := by
 constructor
 ·intro h1 h2
  rw [List.take_add_one, List.take_add_one, hx, hy, h1, h2]
 ·intro h
  exact eqB_false.2 fun e => h (by rw [e, hy] at hx; exact (Option.some.inj hx).symm)
end
theorem cells_get {w : World} {A : Option Addr} {l : List Int} (h : Cells w A (l.map (Value.int .i64))) {k : Nat} (hk : k < l.length) : ∃ b o, A = some ⟨b, o, none⟩ ∧ w.cell? ⟨b, o + k, none⟩ = some (.int .i64 (l.getD k 0)) := by
 rcases h with h | ⟨b, o, hA, _, hc⟩
 ·have := congrArg List.length h
  simp at this
  subst this
  simp at hk
 ·refine ⟨b, o, hA, hc k _ ?_⟩
  rw [List.getElem?_map, List.getD_eq_getElem?_getD, List.getElem?_eq_getElem hk]
  rfl
end Go.Proofs.YtpmdcckapddchaaGreat
