import Derived.Test.YtpmdcckapddchaaGreatShort
import Derived.Test.YtpmdcckapddchaaGreatMa
import Derived.Test.YtpmdcckapddchaaGreatMe
import Derived.WalkSmall
import Derived.Test.YtpmdcckapddchaaGreatMd
import Derived.Test.YtpmdcckapddchaaGreatMb
import Derived.Test.YtpmdcckapddchaaGreatMc
/- merged by wip/merge.py from: Grows SigChkA SexpStands SexpStand2 SexpMay SigMacP -/
/- A row of the call's own, grown element by element out of old memory, as a list. No condition. -/
namespace Go.Proofs.YtpmdcckapddchaaGreat
open Go.RowKit

structure Grows {α : Type} (n : Nat) (R : World → List Value → α → Prop) (t : TypeId) (w0 : World) (base : Nat) (w : World) (v : Value) (xs : List α) : Prop where
 row : ∃ vals, w.ownsRow base t n v xs.length vals ∧ ∀ i x, xs[i]? = some x → ∃ vs : List Value, vs.length = n ∧ R w0 vs x ∧ ∀ j u, vs[j]? = some u → vals[i * n + j]? = some u
section
variable {α : Type} {n : Nat} {R : World → List Value → α → Prop} {t : TypeId} {w0 w w' : World} {base : Nat} {v : Value} {xs : List α}
theorem Grows.nil (w : World) : Grows n R t w0 base w (.slice none 0 0) ([] : List α) := ⟨[], ⟨by simp, .inl ⟨rfl, rfl⟩⟩, fun i x hx => by simp at hx⟩
theorem Grows.shape (h : Grows n R t w0 base w v xs) : ∃ A c, v = .slice A xs.length c ∧ xs.length ≤ c ∧ c ≤ maxLen := by
 obtain ⟨vals, ho, _⟩ := h.row
 rcases ho.2 with ⟨h1, h2⟩ | ⟨g, cap, cur, h1, _, _, h2, h3, _⟩
 ·exact ⟨none, 0, by rw [h2]; exact h1, by omega, by unfold maxLen; omega⟩
 ·exact ⟨_, cap, h1, h2, h3⟩
theorem Grows.lt (h : Grows n R t w0 base w v xs) : ∀ k, v.ownBlock = some k → base ≤ k ∧ k < w.heap.size := by
 obtain ⟨vals, ho, _⟩ := h.row
 exact ho.lt
theorem Grows.lies {A : Option Addr} {c : Nat} (hR : Lasts R) (hb : Below w0.heap.size w0 w) (h : Grows n R t w0 base w (.slice A xs.length c) xs) : Lies n R w A xs := by
 obtain ⟨vals, ho, hr⟩ := h.row
 rcases ho.2 with ⟨h1, h2⟩ | ⟨g, cap, cur, h1, hg, hat, h2, h3, h4, h5⟩
 ·exact .inl (List.length_eq_zero_iff.1 h2)
 ·simp only [Value.slice.injEq] at h1
  refine .inr ⟨g, 0, h1.1, (Array.getElem?_eq_some_iff.1 hat).1, fun i x hx => ?_⟩
  obtain ⟨vs, e1, e2, e3⟩ := hr i x hx
  refine ⟨vs, e1, fun j u hu => ?_, hR _ _ _ _ hb e2⟩
  rw [Nat.zero_add, cell_of_row w g (i * n + j) cur t (0, 0) hat]
  have := e3 j u hu
  rw [← h5, List.getElem?_take] at this
  split at this
  ·simpa using this
  ·cases this
theorem Grows.kept {row : Option Nat} (h : Grows n R t w0 base w v xs) (hg : w.grownBy w' row) (hne : v.ownBlock = none ∨ v.ownBlock ≠ row) : Grows n R t w0 base w' v xs := by
 obtain ⟨vals, ho, hr⟩ := h.row
 exact ⟨vals, ho.kept hg hne, hr⟩
theorem grown_of_below (hb : Below w.heap.size w w') : w.grownBy w' none := ⟨hb.os, hb.tape, hb.output, hb.size, fun k hk _ => hb.block k hk⟩
theorem Grows.below (h : Grows n R t w0 base w v xs) (hb : Below w.heap.size w w') : Grows n R t w0 base w' v xs :=
 h.kept (grown_of_below hb) (by cases v.ownBlock <;> simp)
theorem Grows.alloc (h : Grows n R t w0 base w v xs) (o : Obj) : Grows n R t w0 base (w.alloc o) v xs := h.kept (World.grownBy_alloc w o none) (by cases v.ownBlock <;> simp)
theorem Grows.setCell (h : Grows n R t w0 base w v xs) {p : Addr} (u : Value) (hp : p.block < base) : Grows n R t w0 base (w.setCell p u) v xs := by
 obtain ⟨vals, ho, hr⟩ := h.row
 refine ⟨vals, ⟨ho.1, ?_⟩, hr⟩
 rcases ho.2 with h1 | ⟨g, cap, cur, h1, h2, h3, h4⟩
 ·exact .inl h1
 ·exact .inr ⟨g, cap, cur, h1, h2, (Below.heap_setCell w p u g (by omega)).trans h3, h4⟩
theorem Grows.push {v' : Value} {vals vs : List Value} {x : α} (hl : vals.length = xs.length * n) (hr : ∀ i x, xs[i]? = some x → ∃ vs : List Value, vs.length = n ∧ R w0 vs x ∧ ∀ j u, vs[j]? = some u → vals[i * n + j]? = some u)
  (ho : w'.ownsRow base t n v' (xs.length + 1) (vals ++ vs)) (hx : R w0 vs x) (hvs : vs.length = n) : Grows n R t w0 base w' v' (xs ++ [x]) := by
 refine ⟨vals ++ vs, by rw [List.length_append]; exact ho, fun i y hy => ?_⟩
 by_cases hi : i < xs.length
 ·rw [List.getElem?_append_left hi] at hy
  obtain ⟨us, e1, e2, e3⟩ := hr i y hy
  refine ⟨us, e1, e2, fun j u hu => ?_⟩
  have := e3 j u hu
  rw [List.getElem?_append_left (List.getElem?_eq_some_iff.1 this).1]; exact this
 ·have hi' : i = xs.length := by
   have := (List.getElem?_eq_some_iff.1 hy).1
   simp at this; omega
  subst hi'
  simp at hy
  subst hy
  refine ⟨vs, hvs, hx, fun j u hu => ?_⟩
  rw [List.getElem?_append_right (by rw [hl]; omega), hl, show xs.length * n + j - xs.length * n = j by omega]; exact hu
end
end Go.Proofs.YtpmdcckapddchaaGreat
/- The document's Check: what stands at the head of a round. -/
namespace Go.Proofs.YtpmdcckapddchaaGreat.Sg
open Go.RowKit Go.Proofs.YtpmdcckapddchaaGreat.Dt

structure RC (g : Sig) (w : World) (u0 u1 u2 : Value) (wr : World) (v1 v2 v3 : Value) (k1 k2 k3 : Nat) : Prop where
 keep : Below w.heap.size w wr
 g0 : wr.cell? ⟨w.heap.size, 0, none⟩ = some u0
 g1 : wr.cell? ⟨w.heap.size, 1, none⟩ = some u1
 g2 : wr.cell? ⟨w.heap.size, 2, none⟩ = some u2
 ob : wr.heap[w.heap.size + 1]? = some (.cells #[v1, v2, v3] 26 (0, 0))
 r1 : Grows 1 StrR 9 w (w.heap.size + 2) wr v1 (g.sorts.take k1)
 r2 : Grows 6 FunR 104 w (w.heap.size + 2) wr v2 (g.funs.take k2)
 r3 : Grows 6 MacroR 47 w (w.heap.size + 2) wr v3 (g.macros.take k3)
 d12 : ∀ k, v1.ownBlock = some k → v2.ownBlock ≠ some k
 d13 : ∀ k, v1.ownBlock = some k → v3.ownBlock ≠ some k
 d23 : ∀ k, v2.ownBlock = some k → v3.ownBlock ≠ some k
section
variable {g : Sig} {w wr w' : World} {u0 u1 u2 v1 v2 v3 : Value} {k1 k2 k3 : Nat}
theorem RC.lt (h : RC g w u0 u1 u2 wr v1 v2 v3 k1 k2 k3) : w.heap.size + 1 < wr.heap.size := lt_of_block h.ob
theorem RC.below (h : RC g w u0 u1 u2 wr v1 v2 v3 k1 k2 k3) (hb : Below wr.heap.size wr w') : RC g w u0 u1 u2 w' v1 v2 v3 k1 k2 k3 := by
 have l := h.lt
 have e := fun o => (bcell hb).1 w.heap.size o (by omega)
 exact ⟨h.keep.trans (hb.mono h.keep.size), (e 0).trans h.g0, (e 1).trans h.g1, (e 2).trans h.g2, (hb.block _ l).trans h.ob, h.r1.below hb, h.r2.below hb, h.r3.below hb, h.d12, h.d13, h.d23⟩
theorem RC.drew (h : RC g w u0 u1 u2 wr v1 v2 v3 k1 k2 k3) : RC g w u0 u1 u2 wr.drew v1 v2 v3 k1 k2 k3 := h.below (Below.refl _ _).drew
theorem RC.alloc (h : RC g w u0 u1 u2 wr v1 v2 v3 k1 k2 k3) (o : Obj) : RC g w u0 u1 u2 (wr.alloc o) v1 v2 v3 k1 k2 k3 := h.below ((Below.refl _ _).alloc (Nat.le_refl _) o)
theorem RC.o (h : RC g w u0 u1 u2 wr v1 v2 v3 k1 k2 k3) : wr.cell? ⟨w.heap.size + 1, 0, none⟩ = some v1 ∧ wr.cell? ⟨w.heap.size + 1, 1, none⟩ = some v2 ∧ wr.cell? ⟨w.heap.size + 1, 2, none⟩ = some v3 ∧ ∀ j, wr.frozen? ⟨w.heap.size + 1, j, none⟩ = false :=
 ⟨by rw [cell_of_cells h.ob]; rfl, by rw [cell_of_cells h.ob]; rfl, by rw [cell_of_cells h.ob]; rfl, fun j => frozen_of_cells h.ob j⟩
theorem take_len {α : Type} {l : List α} {k : Nat} (h : k ≤ l.length) : (l.take k).length = k := by rw [List.length_take]; omega
theorem RC.shape (h : RC g w u0 u1 u2 wr v1 v2 v3 k1 k2 k3) (h1 : k1 ≤ g.sorts.length) (h2 : k2 ≤ g.funs.length) (h3 : k3 ≤ g.macros.length) :
  (∃ A c, v1 = .slice A k1 c ∧ k1 ≤ c ∧ c ≤ maxLen) ∧ (∃ A c, v2 = .slice A k2 c ∧ k2 ≤ c ∧ c ≤ maxLen) ∧ (∃ A c, v3 = .slice A k3 c ∧ k3 ≤ c ∧ c ≤ maxLen) := by
 have a := h.r1.shape
 have b := h.r2.shape
 have c := h.r3.shape
 rw [take_len h1] at a
 rw [take_len h2] at b
 rw [take_len h3] at c
 exact ⟨a, b, c⟩
theorem RC.sig {A1 A2 A3 : Option Addr} {c1 c2 c3 : Nat} (h : RC g w u0 u1 u2 wr (.slice A1 k1 c1) (.slice A2 k2 c2) (.slice A3 k3 c3) k1 k2 k3) (h1 : k1 ≤ g.sorts.length) (h2 : k2 ≤ g.funs.length) (h3 : k3 ≤ g.macros.length) :
  SigAt wr A1 c1 A2 c2 A3 c3 ⟨g.sorts.take k1, g.funs.take k2, g.macros.take k3⟩ := by
 obtain ⟨⟨a, b, e1, p1, q1⟩, ⟨a', b', e2, p2, q2⟩, ⟨a'', b'', e3, p3, q3⟩⟩ := h.shape h1 h2 h3
 simp only [Value.slice.injEq] at e1 e2 e3
 have r1 := h.r1
 have r2 := h.r2
 have r3 := h.r3
 have t1 := take_len h1
 have t2 := take_len h2
 have t3 := take_len h3
 have x1 : Value.slice A1 k1 c1 = .slice A1 (g.sorts.take k1).length c1 := by rw [t1]
 have x2 : Value.slice A2 k2 c2 = .slice A2 (g.funs.take k2).length c2 := by rw [t2]
 have x3 : Value.slice A3 k3 c3 = .slice A3 (g.macros.take k3).length c3 := by rw [t3]
 rw [x1] at r1
 rw [x2] at r2
 rw [x3] at r3
 exact ⟨r1.lies StrR.lasts h.keep, r2.lies FunR.lasts h.keep, r3.lies MacroR.lasts h.keep, by rw [t1]; omega, by rw [t2]; omega, by rw [t3]; omega, by omega, by omega, by omega⟩
theorem RC.frame {v v' : Value} {j : Nat} (h : RC g w u0 u1 u2 wr v1 v2 v3 k1 k2 k3) (hg : wr.grownBy w' v.ownBlock) (hv : ∀ k, v.ownBlock = some k → w.heap.size + 2 ≤ k) :
  Below w.heap.size w (w'.setCell ⟨w.heap.size + 1, j, none⟩ v') ∧ (w'.setCell ⟨w.heap.size + 1, j, none⟩ v').cell? ⟨w.heap.size, 0, none⟩ = some u0 ∧ (w'.setCell ⟨w.heap.size + 1, j, none⟩ v').cell? ⟨w.heap.size, 1, none⟩ = some u1 ∧ (w'.setCell ⟨w.heap.size + 1, j, none⟩ v').cell? ⟨w.heap.size, 2, none⟩ = some u2 ∧
   (w'.setCell ⟨w.heap.size + 1, j, none⟩ v').heap[w.heap.size + 1]? = some (.cells ((#[v1, v2, v3] : Array Value).setIfInBounds j v') 26 (0, 0)) := by
 have l := h.lt
 have hbk : ∀ k, k < w.heap.size + 2 → some k ≠ v.ownBlock := fun k hk e => by have := hv k e.symm; omega
 have hgb : (w'.setCell ⟨w.heap.size + 1, j, none⟩ v').heap[w.heap.size]? = wr.heap[w.heap.size]? := (Below.heap_setCell w' ⟨w.heap.size + 1, j, none⟩ v' w.heap.size (by simp)).trans (hg.block _ (by omega) (hbk _ (by omega)))
 have e := fun o => World.cell?_of_block (w := wr) (w' := w'.setCell ⟨w.heap.size + 1, j, none⟩ v') (a := ⟨w.heap.size, o, none⟩) hgb
 refine ⟨?_, (e 0).trans h.g0, (e 1).trans h.g1, (e 2).trans h.g2, ?_⟩
 ·exact (h.keep.grown hg h.keep.size (fun k hk => by have := hv k hk; omega)).setCell (by simp) _
 ·have := (hg.block _ l (hbk _ (by omega))).trans h.ob
  simp [World.setCell, Array.getElem?_modify, this]
theorem RC.grown {v : Value} (h : RC g w u0 u1 u2 wr v1 v2 v3 k1 k2 k3) (hg : wr.grownBy w' v.ownBlock) (hv : ∀ k, v.ownBlock = some k → w.heap.size + 2 ≤ k) :
  w'.cell? ⟨w.heap.size + 1, 0, none⟩ = some v1 ∧ w'.cell? ⟨w.heap.size + 1, 1, none⟩ = some v2 ∧ w'.cell? ⟨w.heap.size + 1, 2, none⟩ = some v3 ∧ ∀ j, w'.frozen? ⟨w.heap.size + 1, j, none⟩ = false := by
 have e := (hg.block _ h.lt (fun e => by have := hv _ e.symm; omega)).trans h.ob
 exact ⟨by rw [cell_of_cells e]; rfl, by rw [cell_of_cells e]; rfl, by rw [cell_of_cells e]; rfl, fun j => frozen_of_cells e j⟩
end
end Go.Proofs.YtpmdcckapddchaaGreat.Sg
/- Whether an expression may be, but for its depth: the program's walk. -/
namespace Go.Proofs.YtpmdcckapddchaaGreat.Dt
open Go.RowKit

structure PtrAt (w : World) (b : Nat) (A : Option Addr) (c : Nat) (x : Sexp) : Prop where
 c0 : w.cell? ⟨b, 0, none⟩ = some (.int .i8 x.kind)
 c1 : w.cell? ⟨b, 1, none⟩ = some (.string x.text)
 c2 : w.cell? ⟨b, 2, none⟩ = some (.slice A x.l.length c)
 lt : b < w.heap.size
 rep : SexpR w [.int .i8 x.kind, .string x.text, .slice A x.l.length c] x
theorem PtrAt.on {w w' : World} {b : Nat} {A : Option Addr} {c : Nat} {x : Sexp} (h : PtrAt w b A c x) (hb : Below w.heap.size w w') : PtrAt w' b A c x :=
 ⟨((bcell hb).1 b 0 h.lt).trans h.c0, ((bcell hb).1 b 1 h.lt).trans h.c1, ((bcell hb).1 b 2 h.lt).trans h.c2, Nat.lt_of_lt_of_le h.lt hb.size, SexpR.lasts _ _ _ _ hb h.rep⟩
theorem PtrAt.text {w : World} {b : Nat} {A : Option Addr} {c : Nat} {x : Sexp} (h : PtrAt w b A c x) : (x.text.size : Int) ≤ 140737488351232 := by
 obtain ⟨_, _, _, _, _, _, h1, _⟩ := h.rep.open'; exact h1
theorem PtrAt.len {w : World} {b : Nat} {A : Option Addr} {c : Nat} {x : Sexp} (h : PtrAt w b A c x) : x.l.length * 48 ≤ 140737488351232 := by
 obtain ⟨_, _, _, _, _, _, _, h1, _⟩ := h.rep.open'; exact h1

set_option maxHeartbeats 1600000 in
theorem symbol_any {w : World} {b : Nat} {A : Option Addr} {c : Nat} {x : Sexp} (h : PtrAt w b A c x) :
  Calls Tryz.prog 98 #[.pointer (some ⟨b, 0, none⟩)] w fun e w' => e = .returned (.bool (x.l.isEmpty && Lx.mayB (Lx.bs x.text))) ∧ w = w' := by
 have HM := kp (Lx.may_any x.text w (by have := h.text; omega))
 have c1 := h.c1
 have c2 := h.c2
 have hl := h.len
 generalize Lx.mayB (Lx.bs x.text) = m at *
 generalize x.text = t at *
 generalize x.l = l at *
 clear h
 cases l with
 | nil =>
  simp only [List.length_nil] at c2
  go_enter Tryz.func98, Tryz.ntmps98
  go_wp2_with fail
  refine (HM.out).mono ?_
  rintro e w' ⟨rfl, rfl⟩
  go_wp2_with fail
  go_ret
  exact ⟨rfl, rfl⟩
 | cons y r =>
  have hn : (((y :: r).length : Int) == 0) = false := by rw [beq_eq_false_iff_ne, List.length_cons]; omega
  generalize (y :: r).length = n at *
  go_enter Tryz.func98, Tryz.ntmps98
  go_wp2_with fail
  go_ret
  exact ⟨rfl, rfl⟩

theorem numB_iff (l : List UInt8) : numB l = (decide (parseE l ≠ 20) && decide (l.length ≤ 100)) := by
 unfold numB parseE
 cases isNum l <;> simp
 split <;> simp
set_option maxHeartbeats 3200000 in
theorem numeral_any {w : World} {b : Nat} {A : Option Addr} {c : Nat} {x : Sexp} (h : PtrAt w b A c x) :
  Calls Tryz.prog 99 #[.pointer (some ⟨b, 0, none⟩)] w fun e w' => e = .returned (.bool (x.l.isEmpty && numB (Lx.bs x.text))) ∧ Below w.heap.size w w' := by
 have HM := kp (parse_any x.text (by have := h.text; omega) w)
 have HP := kp (fun W (hW : Below w.heap.size w W) => show W.cell? ⟨b, 1, none⟩ = some (.string x.text) ∧ W.cell? ⟨b, 2, none⟩ = some (.slice A x.l.length c) from ⟨(h.on hW).c1, (h.on hW).c2⟩)
 have HN := kp (show numB (Lx.bs x.text) = (decide (parseE x.text.data.toList ≠ 20) && decide (x.text.size ≤ 100)) by rw [← Lx.bs_length x.text]; exact numB_iff _)
 have c1 := h.c1
 have hl := h.len
 have ht := h.text
 generalize parseE x.text.data.toList = pe at *
 generalize parseV x.text.data.toList = pv at *
 generalize numB (Lx.bs x.text) = nb at *
 generalize x.text = t at *
 generalize x.l = l at *
 clear h
 go_enter Tryz.func99, Tryz.ntmps99
 go_wp2_with fail
 refine HM.out.mono ?_
 rintro e w1 ⟨rfl, hb⟩
 have HB1 := kp hb
 obtain ⟨d1, d2⟩ := HP.out w1 hb
 clear hb
 cases l with
 | nil =>
  simp only [List.length_nil] at d2
  by_cases h1 : pe = 20
  ·subst h1
   go_wp2_with fail
   go_ret
   exact ⟨ret_bool (by rw [HN.out]; simp), HB1.out⟩
  ·have h1' : (pe == 20) = false := beq_eq_false_iff_ne.2 h1
   have h1'' : (pe != 20) = true := by rw [bne, h1']; rfl
   by_cases h2 : t.size ≤ 100
   ·have h2' : (t.size : Int) ≤ 100 := by omega
    go_wp2_with fail
    go_ret
    exact ⟨ret_bool (by rw [HN.out]; simp [h1, h2]), HB1.out⟩
   ·have h2' : decide ((t.size : Int) ≤ 100) = false := decide_eq_false (by omega)
    go_wp2_with fail
    go_ret
    exact ⟨ret_bool (by rw [HN.out]; simp [h2]), HB1.out⟩
 | cons y r =>
  have hn : (((y :: r).length : Int) == 0) = false := by rw [beq_eq_false_iff_ne, List.length_cons]; omega
  generalize (y :: r).length = n at *
  go_wp2_with fail
  go_ret
  exact ⟨rfl, HB1.out⟩

def IdxPost (b : Bool) (e : Ending) : Prop := ∃ r : Int, e = .returned (.int .i64 r) ∧ decide (0 ≤ r) = b
def byteV (c : UInt8) : Value := .int .u8 c.toNat
def noSign (c : UInt8) : Bool := !Lx.signI c.toNat
set_option maxHeartbeats 800000 in
theorem keyword1_any (c : UInt8) (w : World) :
  Calls Tryz.prog 155 #[byteV c] w fun e w' => e = .returned (.bool (noSign c)) ∧ w = w' := by
 have HS := kp (Lx.sign_any (c.toNat : Int) w (by omega) (by have := c.toNat_lt; omega))
 unfold byteV noSign
 generalize Lx.signI (c.toNat : Int) = b at *
 go_enter Tryz.func155, Tryz.ntmps155
 go_wp2_with fail
 refine (HS.out).mono ?_
 rintro e w' ⟨rfl, rfl⟩
 go_wp2_with fail
 go_ret
 exact ⟨rfl, rfl⟩
set_option maxHeartbeats 1600000 in
theorem idx_bytes (xs : List UInt8) (w : World) (A : Option Addr) (c : Nat) (hc : Cells w A (xs.map byteV)) (hl : (xs.length : Int) ≤ 9223372036854775807) :
  Calls Tryz.prog 185 #[.slice A xs.length c, .func (Fn.func 155) #[] #[]] w fun e w' => IdxPost (xs.any noSign) e ∧ w = w' := by
 go_enter Tryz.func185, Tryz.ntmps185
 go_wp2_with fail
 go_loop [8] (fun v => ∃ k : Nat, k ≤ xs.length ∧ v = .int .i64 k ∧ (xs.take k).any noSign = false) (fun v => xs.length - (intOf v).toNat)
 case atStart => exact ⟨0, Nat.zero_le _, rfl, rfl⟩
 case round =>
  obtain ⟨k, hk, rfl, hn⟩ := hrel
  have HN := kp hn
  clear hn
  by_cases hlt : k < xs.length
  ·have hlt2 : (k : Int) < (xs.length : Int) := by omega
   have hx := List.getElem?_eq_getElem hlt
   generalize xs[k] = x at hx
   rcases hc with h0 | ⟨b, o, rfl, hbl, hcell⟩
   ·simp at h0; rw [h0] at hlt; simp at hlt
   ·have c0 := hcell k (byteV x) (by simp [hx])
    have HC := kp (keyword1_any x w)
    have HX := kp hx
    clear hcell hx
    cases hq : noSign x with
    | true =>
     have HQ := kp (show xs.any noSign = true from List.any_eq_true.2 ⟨x, List.mem_of_getElem? HX.out, hq⟩)
     rw [hq] at HC
     clear hq
     go_wp2_with fail
     refine HC.out.mono ?_
     rintro e w' ⟨rfl, rfl⟩
     go_wp2_with fail
     go_ret
     exact ⟨⟨k, rfl, by rw [HQ.out]; exact decide_eq_true (by omega)⟩, rfl⟩
    | false =>
     have HQ := kp (show (xs.take (k + 1)).any noSign = false by rw [List.take_add_one, HX.out, List.any_append, HN.out]; simpa using hq)
     rw [hq] at HC
     clear hq
     go_wp2_with fail
     refine HC.out.mono ?_
     rintro e w' ⟨rfl, rfl⟩
     go_wp2_with fail
     go_round
     case rel => exact ⟨k + 1, by omega, by go_num, HQ.out⟩
     case measure => simp [intOf]; omega
  ·obtain rfl : k = xs.length := by omega
   have HQ := kp (show xs.any noSign = false by have h := HN.out; rwa [List.take_length] at h)
   go_wp2_with fail
   go_ret
   exact ⟨⟨-1, rfl, by rw [HQ.out]; exact decide_eq_false (by omega)⟩, rfl⟩
set_option maxHeartbeats 800000 in
theorem contains_bytes (xs : List UInt8) (w : World) (A : Option Addr) (c : Nat) (hc : Cells w A (xs.map byteV)) (hl : (xs.length : Int) ≤ 9223372036854775807) :
  Calls Tryz.prog 154 #[.slice A xs.length c, .func (Fn.func 155) #[] #[]] w fun e w' => e = .returned (.bool (xs.any noSign)) ∧ w = w' := by
 have HI := kp (idx_bytes xs w A c hc hl)
 generalize xs.any noSign = b at *
 clear hc
 go_enter Tryz.func154, Tryz.ntmps154
 go_wp2_with fail
 refine HI.out.mono ?_
 rintro e w' ⟨⟨r, rfl, hr⟩, rfl⟩
 have HR := kp hr
 clear hr
 go_wp2_with fail
 go_ret
 exact ⟨ret_bool HR.out, rfl⟩
end Go.Proofs.YtpmdcckapddchaaGreat.Dt
/- Whether an expression may be, but for its depth: keywords, lists; May. -/
namespace Go.Proofs.YtpmdcckapddchaaGreat.Dt
open Go.RowKit

theorem bytes_conv (W : World) (s : ByteArray) : ∃ cap W1, (convert 9 189 (.string s)).run Tryz.prog W = .ok (.slice (some ⟨W.heap.size, 0, none⟩) s.size cap) W1 ∧ Below W.heap.size W W1 ∧ Cells W1 (some ⟨W.heap.size, 0, none⟩) ((Lx.bs s).map byteV) := by
 refine ⟨_, _, run_bytes_of_string (P := Tryz.prog) W 9 189 5 s Tryz.underlying9 Tryz.underlying189 Tryz.underlying5, ((Below.refl _ _).drew).alloc (Nat.le_refl _) _, .inr ⟨W.heap.size, 0, rfl, by simp, fun j u hu => ?_⟩⟩
 have hj : j < s.data.size := by have := (List.getElem?_eq_some_iff.1 hu).1; rw [List.length_map, Lx.bs_length] at this; exact this
 have h1 := World.cell?_alloc_mark W.drew (bytesRow s (grownCap W s.size 0 5)) 5 ((bytesRow s (grownCap W s.size 0 5)).size, (bytesRow s (grownCap W s.size 0 5)).size + 1) j
 rw [bytesRow_at _ _ _ hj] at h1
 rw [Nat.zero_add]
 refine h1.trans ?_
 rw [← hu, List.getElem?_map, Lx.bs_at (by exact hj)]
 rfl
theorem keyB_iff (s : ByteArray) : keyB (Lx.bs s) = (!(Lx.bs s).any noSign && !(Lx.bs s).isEmpty && decide (s.size ≤ 100)) := by
 unfold keyB
 rw [Lx.bs_length]
 congr 2
 rw [Bool.eq_iff_iff]
 simp [noSign]
set_option maxRecDepth 100000 in
set_option maxHeartbeats 3200000 in
theorem keyword_any {w : World} {b : Nat} {A : Option Addr} {c : Nat} {x : Sexp} (h : PtrAt w b A c x) :
  Calls Tryz.prog 100 #[.pointer (some ⟨b, 0, none⟩)] w fun e w' => e = .returned (.bool (x.l.isEmpty && keyB (Lx.bs x.text))) ∧ Below w.heap.size w w' := by
 obtain ⟨cap, w1, hconv, hb1, hcs⟩ := bytes_conv w x.text
 have HC := kp (contains_bytes (Lx.bs x.text) w1 _ cap hcs (by rw [Lx.bs_length]; have := h.text; omega))
 have HB1 := kp hb1
 have HN := kp (keyB_iff x.text)
 have d1 := (h.on hb1).c1
 have d2 := (h.on hb1).c2
 have HE := kp (show (Lx.bs x.text).isEmpty = x.text.toList.isEmpty by rw [Lx.bs_toList])
 have HL := kp (Lx.bs_length x.text)
 have c1 := h.c1
 have hl := h.len
 have ht := h.text
 rw [Lx.bs_length] at HC
 generalize keyB (Lx.bs x.text) = kb at *
 generalize (Lx.bs x.text).any noSign = nb at *
 generalize x.text = t at *
 generalize x.l = l at *
 clear h hb1 hcs
 cases l with
 | nil =>
  simp only [List.length_nil] at d2
  cases nb with
  | true =>
   go_enter Tryz.func100, Tryz.ntmps100
   go_wp2_with fail
   refine (HC.out).mono ?_
   rintro e w' ⟨rfl, rfl⟩
   go_wp2_with fail
   go_ret
   exact ⟨ret_bool (by rw [HN.out]; simp), HB1.out⟩
  | false =>
   cases he : t.toList.isEmpty with
   | true =>
    have he2 : t.toList = [] := List.isEmpty_iff.1 he
    have HE2 := kp (show (Lx.bs t).isEmpty = true by rw [HE.out, he])
    go_enter Tryz.func100, Tryz.ntmps100
    go_wp2_with fail
    refine (HC.out).mono ?_
    rintro e w' ⟨rfl, rfl⟩
    go_wp2_with fail
    go_ret
    exact ⟨ret_bool (by rw [HN.out, HE2.out]; simp), HB1.out⟩
   | false =>
    have HE2 := kp (show (Lx.bs t).isEmpty = false by rw [HE.out, he])
    have he3 : (!t.toList.isEmpty) = true := by rw [he]; rfl
    by_cases h2 : t.size ≤ 100
    ·have h2' : (t.size : Int) ≤ 100 := by omega
     go_enter Tryz.func100, Tryz.ntmps100
     go_wp2_with fail
     refine (HC.out).mono ?_
     rintro e w' ⟨rfl, rfl⟩
     go_wp2_with fail
     go_ret
     exact ⟨ret_bool (by rw [HN.out, HE2.out]; simp [h2]), HB1.out⟩
    ·have h2' : decide ((t.size : Int) ≤ 100) = false := decide_eq_false (by omega)
     go_enter Tryz.func100, Tryz.ntmps100
     go_wp2_with fail
     refine (HC.out).mono ?_
     rintro e w' ⟨rfl, rfl⟩
     go_wp2_with fail
     go_ret
     exact ⟨ret_bool (by rw [HN.out, HE2.out]; simp [h2]), HB1.out⟩
 | cons y r =>
  have hn : (((y :: r).length : Int) == 0) = false := by rw [beq_eq_false_iff_ne, List.length_cons]; omega
  have HI := kp (show (y :: r).isEmpty = false from rfl)
  generalize (y :: r).length = n at *
  go_enter Tryz.func100, Tryz.ntmps100
  go_wp2_with fail
  refine (HC.out).mono ?_
  rintro e w' ⟨rfl, rfl⟩
  go_wp2_with fail
  go_ret
  exact ⟨ret_bool (by rw [HI.out]; rfl), HB1.out⟩

def StandsAt (y : Sexp) : Prop := ∀ (W : World) (b : Nat) (A : Option Addr) (c : Nat), PtrAt W b A c y → Calls Tryz.prog 60 #[.pointer (some ⟨b, 0, none⟩)] W fun e w' => e = .returned (.bool y.stands) ∧ Below W.heap.size W w'
theorem ptr_box {w : World} {A : Option Addr} {c : Nat} {x : Sexp} (h : SexpR w [.int .i8 x.kind, .string x.text, .slice A x.l.length c] x) :
  PtrAt (w.alloc (.cells #[.int .i8 x.kind, .string x.text, .slice A x.l.length c] 30)) w.heap.size A c x := by
 obtain ⟨q0, q1, q2, z⟩ := box_cells w (.int .i8 x.kind) (.string x.text) (.slice A x.l.length c) 30
 exact ⟨q0, q1, q2, by omega, SexpR.lasts _ _ _ _ ((Below.refl _ _).alloc (Nat.le_refl _) _) h⟩
set_option maxHeartbeats 800000 in
theorem list1_any {y : Sexp} (hs : StandsAt y) {w : World} {A : Option Addr} {c : Nat} (h : SexpR w [.int .i8 y.kind, .string y.text, .slice A y.l.length c] y) :
  Calls Tryz.prog 158 #[.agg #[.int .i8 y.kind, .string y.text, .slice A y.l.length c]] w fun e w' => e = .returned (.bool (!y.stands)) ∧ Below w.heap.size w w' := by
 have HP := kp (hs _ _ A c (ptr_box h))
 have HB := kp ((Below.refl w.heap.size w).alloc (Nat.le_refl _) (.cells #[.int .i8 y.kind, .string y.text, .slice A y.l.length c] 30))
 generalize y.stands = b at *
 clear hs h
 go_enter Tryz.func158, Tryz.ntmps158
 go_wp2_with fail
 refine HP.out.mono ?_
 rintro e w1 ⟨rfl, hb⟩
 have HB1 := kp (HB.out.trans (hb.mono HB.out.size))
 clear hb
 go_wp2_with fail
 go_ret
 exact ⟨rfl, HB1.out⟩
set_option maxRecDepth 100000 in
set_option maxHeartbeats 3200000 in
theorem idx_sexp (l : List Sexp) (hs : ∀ y ∈ l, StandsAt y) (w : World) (A : Option Addr) (c : Nat) (hl : Lies 3 SexpR w A l) (hlen : (l.length : Int) ≤ 140737488351232) :
  Calls Tryz.prog 186 #[.slice A l.length c, .func (Fn.func 158) #[] #[]] w fun e w' => IdxPost (!Sexp.standsL l) e ∧ Below w.heap.size w w' := by
 have HS := kp hs
 have HL := kp hl
 have HA := kp (Sexp.standsL_all l)
 clear hs hl
 go_enter Tryz.func186, Tryz.ntmps186
 go_wp2_with fail
 go_loopw [8] (fun v wr => ∃ k : Nat, k ≤ l.length ∧ v = .int .i64 k ∧ (l.take k).all Sexp.stands = true ∧ Below w.heap.size w wr) (fun v _ => l.length - (intOf v).toNat)
 case atStart => exact ⟨0, Nat.zero_le _, rfl, rfl, Below.refl _ _⟩
 case round =>
  obtain ⟨k, hk, rfl, hn, hb⟩ := hrel
  have HN := kp hn
  have HB := kp hb
  clear hn
  by_cases hlt : k < l.length
  ·have hlt2 : (k : Int) < (l.length : Int) := by omega
   have hy := List.getElem?_eq_getElem hlt
   have hym := List.getElem_mem hlt
   generalize l[k] = y at hy hym
   obtain ⟨b, o, A', c', rfl, hbl, e0, e1, e2, hr⟩ := sexp_cells (HL.out.on SexpR.lasts hb) hy
   have HC := kp (list1_any (HS.out y hym) hr)
   have HY := kp hy
   have HM := kp hym
   clear hb hr hy hym
   cases hq : y.stands with
   | true =>
    have HQ := kp (show (l.take (k + 1)).all Sexp.stands = true by rw [List.take_add_one, HY.out, List.all_append, HN.out]; simpa using hq)
    rw [hq] at HC
    clear hq
    go_wp2_with fail
    refine HC.out.mono ?_
    rintro e w2 ⟨rfl, hb2⟩
    have HB2 := kp (HB.out.trans (hb2.mono HB.out.size))
    clear hb2
    go_wp2_with fail
    go_roundw
    case rel => exact ⟨k + 1, by omega, by go_num, HQ.out, HB2.out⟩
    case measure => simp [intOf]; omega
   | false =>
    have HQ := kp (show Sexp.standsL l = false by rw [HA.out, List.all_eq_false]; exact ⟨y, HM.out, by rw [hq]; simp⟩)
    rw [hq] at HC
    clear hq
    go_wp2_with fail
    refine HC.out.mono ?_
    rintro e w2 ⟨rfl, hb2⟩
    have HB2 := kp (HB.out.trans (hb2.mono HB.out.size))
    clear hb2
    go_wp2_with fail
    go_ret
    exact ⟨⟨k, rfl, by rw [HQ.out]; exact decide_eq_true (by omega)⟩, HB2.out⟩
  ·obtain rfl : k = l.length := by omega
   have HQ := kp (show Sexp.standsL l = true by have h := HN.out; rw [List.take_length] at h; rw [HA.out]; exact h)
   clear hb
   go_wp2_with fail
   go_ret
   exact ⟨⟨-1, rfl, by rw [HQ.out]; exact decide_eq_false (by omega)⟩, HB.out⟩
set_option maxHeartbeats 800000 in
theorem contains_sexp_of {w : World} {A : Option Addr} {n c : Nat} {q : Bool} {fv : Value} (h : Calls Tryz.prog 186 #[.slice A n c, fv] w fun e w' => IdxPost q e ∧ Below w.heap.size w w') :
  Calls Tryz.prog 157 #[.slice A n c, fv] w fun e w' => e = .returned (.bool q) ∧ Below w.heap.size w w' := by
 have HI := kp h
 clear h
 go_enter Tryz.func157, Tryz.ntmps157
 go_wp2_with fail
 refine HI.out.mono ?_
 rintro e w1 ⟨⟨r, rfl, hr⟩, hb⟩
 have HR := kp hr
 have HB := kp hb
 clear hr hb
 go_wp2_with fail
 go_ret
 exact ⟨ret_bool HR.out, HB.out⟩
set_option maxHeartbeats 1600000 in
theorem list_any {w : World} {b : Nat} {A : Option Addr} {c : Nat} {x : Sexp} (h : PtrAt w b A c x) (hs : ∀ y ∈ x.l, StandsAt y) :
  Calls Tryz.prog 101 #[.pointer (some ⟨b, 0, none⟩)] w fun e w' => e = .returned (.bool ((Lx.bs x.text).isEmpty && Sexp.standsL x.l)) ∧ Below w.heap.size w w' := by
 obtain ⟨A0, c0, e0, hl, hc, hcm, htx, hlb, _⟩ := h.rep.open'
 simp only [List.cons.injEq, Value.slice.injEq, and_true, true_and] at e0
 obtain ⟨rfl, rfl⟩ := e0
 have HI := kp (idx_sexp x.l hs w A c hl (by omega))
 have c1 := h.c1
 have c2 := h.c2
 have HE := kp (show (Lx.bs x.text).isEmpty = x.text.toList.isEmpty by rw [Lx.bs_toList])
 generalize Sexp.standsL x.l = sl at *
 generalize x.text = t at *
 generalize x.l = l at *
 clear h hs hl
 cases he : t.toList.isEmpty with
 | true =>
  have he2 : t.toList = [] := List.isEmpty_iff.1 he
  replace HE := kp (show (Lx.bs t).isEmpty = true by rw [HE.out, he])
  go_enter Tryz.func101, Tryz.ntmps101
  go_wp2_with fail
  refine (Calls.mono (contains_sexp_of HI.out) ?_)
  rintro e w1 ⟨rfl, hb⟩
  have HB := kp hb
  clear hb
  go_wp2_with fail
  go_ret
  exact ⟨ret_bool (by rw [HE.out]; cases sl <;> rfl), HB.out⟩
 | false =>
  replace HE := kp (show (Lx.bs t).isEmpty = false by rw [HE.out, he])
  go_enter Tryz.func101, Tryz.ntmps101
  go_wp2_with fail
  go_ret
  exact ⟨ret_bool (by rw [HE.out]; rfl), Below.refl _ _⟩
end Go.Proofs.YtpmdcckapddchaaGreat.Dt
/- Whether an expression may be: the program's May. -/
namespace Go.Proofs.YtpmdcckapddchaaGreat.Dt
open Go.RowKit

set_option maxRecDepth 100000 in
set_option maxHeartbeats 3200000 in
theorem stands_step (x : Sexp) (hs : ∀ y ∈ x.l, StandsAt y) : StandsAt x := by
 intro w b A c h
 have c0 := h.c0
 have H0 := kp (symbol_any h)
 have H1 := kp (numeral_any h)
 have H2 := kp (keyword_any h)
 have H3 := kp (list_any h hs)
 have HE := kp (Sexp.stands_eq x)
 generalize (x.l.isEmpty && Lx.mayB (Lx.bs x.text)) = b0 at *
 generalize (x.l.isEmpty && numB (Lx.bs x.text)) = b1 at *
 generalize (x.l.isEmpty && keyB (Lx.bs x.text)) = b2 at *
 generalize ((Lx.bs x.text).isEmpty && Sexp.standsL x.l) = b3 at *
 generalize x.stands = st at *
 generalize x.kind = k at *
 clear h hs
 by_cases h0 : k = 0
 ·subst h0
  replace HE := kp (HE.out.trans (if_pos rfl))
  go_enter Tryz.func60, Tryz.ntmps60
  go_wp2_with fail
  refine (H0.out).mono ?_
  rintro e w' ⟨rfl, rfl⟩
  go_wp2_with fail
  go_ret
  exact ⟨ret_bool HE.out.symm, Below.refl _ _⟩
 ·have n0 : (k == 0) = false := beq_eq_false_iff_ne.2 h0
  replace HE := kp (HE.out.trans (if_neg h0))
  by_cases h1 : k = 1
  ·subst h1
   replace HE := kp (HE.out.trans (if_pos rfl))
   go_enter Tryz.func60, Tryz.ntmps60
   go_wp2_with fail
   refine H1.out.mono ?_
   rintro e w1 ⟨rfl, hb⟩
   have HB := kp hb
   clear hb
   go_wp2_with fail
   go_ret
   exact ⟨ret_bool HE.out.symm, HB.out⟩
  ·have n1 : (k == 1) = false := beq_eq_false_iff_ne.2 h1
   replace HE := kp (HE.out.trans (if_neg h1))
   by_cases h2 : k = 2
   ·subst h2
    replace HE := kp (HE.out.trans (if_pos rfl))
    go_enter Tryz.func60, Tryz.ntmps60
    go_wp2_with fail
    refine H2.out.mono ?_
    rintro e w1 ⟨rfl, hb⟩
    have HB := kp hb
    clear hb
    go_wp2_with fail
    go_ret
    exact ⟨ret_bool HE.out.symm, HB.out⟩
   ·have n2 : (k == 2) = false := beq_eq_false_iff_ne.2 h2
    replace HE := kp (HE.out.trans (if_neg h2))
    by_cases h3 : k = 3
    ·subst h3
     replace HE := kp (HE.out.trans (if_pos rfl))
     go_enter Tryz.func60, Tryz.ntmps60
     go_wp2_with fail
     refine H3.out.mono ?_
     rintro e w1 ⟨rfl, hb⟩
     have HB := kp hb
     clear hb
     go_wp2_with fail
     go_ret
     exact ⟨ret_bool HE.out.symm, HB.out⟩
    ·have n3 : (k == 3) = false := beq_eq_false_iff_ne.2 h3
     replace HE := kp (HE.out.trans (if_neg h3))
     go_enter Tryz.func60, Tryz.ntmps60
     go_wp2_with fail
     go_ret
     exact ⟨ret_bool HE.out.symm, Below.refl _ _⟩
theorem stands_all : ∀ (n : Nat) (x : Sexp), SizeOf.sizeOf x < n → StandsAt x := by
 intro n
 induction n with
 | zero => intro x hx; omega
 | succ n ih => exact fun x hx => stands_step x fun y hy => ih y (by have := Sexp.mem_lt hy; omega)
set_option maxHeartbeats 1600000 in
theorem sxmay_any {w : World} {A : Option Addr} {c : Nat} {x : Sexp} (h : SexpR w [.int .i8 x.kind, .string x.text, .slice A x.l.length c] x) :
  Calls Tryz.prog 33 #[.agg #[.int .i8 x.kind, .string x.text, .slice A x.l.length c]] w fun e w' => e = .returned (.bool x.may) ∧ Below w.heap.size w w' := by
 have HP := kp (ptr_box h)
 have HB := kp ((Below.refl w.heap.size w).alloc (Nat.le_refl _) (.cells #[.int .i8 x.kind, .string x.text, .slice A x.l.length c] 30))
 have HD := kp (depth_any _ x (Nat.lt_succ_self _) _ A c (SexpR.lasts _ _ _ _ HB.out h))
 have HS := kp (stands_all _ x (Nat.lt_succ_self _))
 have HM := kp (show x.may = (decide (x.depth ≤ 60) && x.stands) from rfl)
 clear h
 go_enter Tryz.func33, Tryz.ntmps33
 go_wp2_with fail
 refine HD.out.mono ?_
 rintro e w1 ⟨rfl, hb⟩
 have HP1 := kp (HP.out.on hb)
 have HB1 := kp (HB.out.trans (hb.mono HB.out.size))
 clear hb
 have hs := HS.out w1 _ A c HP1.out
 by_cases hd : x.depth ≤ 60
 ·go_wp2_with fail
  refine hs.mono ?_
  rintro e w2 ⟨rfl, hb⟩
  have HB2 := kp (HB1.out.trans (hb.mono HB1.out.size))
  clear hb
  go_wp2_with fail
  go_ret
  exact ⟨ret_bool (by rw [HM.out, decide_eq_true hd]; rfl), HB2.out⟩
 ·have hd2 := decide_eq_false hd
  clear hs
  go_wp2_with fail
  go_ret
  exact ⟨ret_bool (by rw [HM.out, hd2]; rfl), HB1.out⟩
end Go.Proofs.YtpmdcckapddchaaGreat.Dt
/- The program's sig: whether a macro may be. -/
namespace Go.Proofs.YtpmdcckapddchaaGreat.Sg
open Go.RowKit Go.Proofs.YtpmdcckapddchaaGreat.Dt

def NameIn (ns : List ByteArray) (k : Nat) (v : Value) : Prop := ∃ x, x ∈ ns.take k ∧ v = .string x
theorem nameIn_zero (ns : List ByteArray) (v : Value) : False ↔ NameIn ns 0 v := by simp [NameIn]
theorem nameIn_succ {ns : List ByteArray} {k : Nat} {y : ByteArray} (h : ns[k]? = some y) (v : Value) : (v = .string y ∨ NameIn ns k v) ↔ NameIn ns (k + 1) v := by
 unfold NameIn
 rw [List.take_add_one, h]
 constructor
 ·rintro (rfl | ⟨x, hx, rfl⟩)
  ·exact ⟨y, by simp, rfl⟩
  ·exact ⟨x, by simp [hx], rfl⟩
 ·rintro ⟨x, hx, rfl⟩
  rcases List.mem_append.1 hx with h1 | h1
  ·exact .inr ⟨x, h1, rfl⟩
  ·simp at h1; subst h1; exact .inl rfl
theorem nameIn_has {ns : List ByteArray} {k : Nat} {y : ByteArray} : NameIn ns k (.string y) ↔ hasB (ns.take k) y = true := by
 rw [hasB_iff]
 unfold NameIn
 constructor
 ·rintro ⟨x, hx, e⟩; cases e; exact hx
 ·intro h; exact ⟨y, h, rfl⟩

theorem Boxes.keeps {w w' : World} {b : Nat} {u0 u1 u2 m1 m2 m3 m4 m5 : Value} {S : Nat → Prop} (h : Boxes w b u0 u1 u2 m1 m2 m3 m4 m5) (hk : Keeps S w w') (h0 : ¬ S b) (h1 : ¬ S (b + 1)) : Boxes w' b u0 u1 u2 m1 m2 m3 m4 m5 := by
 have l0 : b < w.heap.size := by have := h.lt; omega
 exact ⟨Nat.lt_of_lt_of_le h.lt hk.size, (hk.cell l0 h0).trans h.u0, (hk.cell l0 h0).trans h.u1, (hk.cell l0 h0).trans h.u2, (hk.cell h.lt h1).trans h.m1, (hk.cell h.lt h1).trans h.m2, (hk.cell h.lt h1).trans h.m3, (hk.cell h.lt h1).trans h.m4, (hk.cell h.lt h1).trans h.m5⟩

set_option maxRecDepth 100000 in
set_option maxHeartbeats 3200000 in
theorem macro_any {w : World} {A1 A2 A3 : Option Addr} {n1 c1 n2 c2 n3 c3 : Nat} (hn : (n1 : Int) ≤ 140737488351232)
  {Ap Ab : Option Addr} {cp cb : Nat} (m : Macro) (hp : Lies 2 ParamR w Ap m.params) (hpl : m.params.length ≤ maxLen) (hx : SexpR w [.int .i8 m.body.kind, .string m.body.text, .slice Ab m.body.l.length cb] m.body) :
  Calls Tryz.prog 58 #[.agg #[.slice A1 n1 c1, .slice A2 n2 c2, .slice A3 n3 c3], .agg #[.string m.name, .slice Ap m.params.length cp, .int .i64 m.res, .int .i8 m.body.kind, .string m.body.text, .slice Ab m.body.l.length cb]] w fun e w' => e = .returned (.bool (macroB n1 m)) ∧ Below w.heap.size w w' := by
 have HTh := kp (fun s W => there_any A1 A2 A3 n1 c1 n2 c2 n3 c3 s W hn)
 have HSx := kp (fun W (hW : Below w.heap.size w W) => sxmay_any (SexpR.lasts _ _ _ _ hW hx))
 have HLp := kp (fun W (hW : Below w.heap.size w W) => hp.on ParamR.lasts hW)
 have HP := kp (fun k p => paramB_at (n := n1) (ps := m.params) (k := k) (p := p))
 have HPs := kp (paramsTo_succ n1 m.params)
 have HPx := kp (fun k hk h => paramsTo_stop (n := n1) (ps := m.params) (k := k) hk h)
 have HNm := kp (fun k x => map_at (l := m.params) (nm := Param.name) (k := k) (x := x))
 have HE := kp (show macroB n1 m = (decide (m.params.length ≤ 3) && thereB n1 m.res && m.body.may && paramsTo n1 m.params m.params.length) from rfl)
 have HZ := kp (show paramsTo n1 m.params 0 = true from rfl)
 clear hp hx
 generalize macroB n1 m = mb at *
 generalize paramsTo n1 m.params = pt at *
 generalize paramB n1 m.params = pb at *
 generalize m.params.map Param.name = ns at *
 generalize m.body.may = bm' at *
 generalize m.body.kind = bk at *
 generalize m.body.text = bt at *
 generalize m.body.l.length = bl at *
 generalize m.params = ps at *
 generalize m.res = res at *
 generalize m.name = nm at *
 have HPL := kp hpl
 have hpl2 : (ps.length : Int) ≤ 9223372036854775807 := by unfold maxLen at hpl; omega
 clear hpl
 have B2 := kp (((Below.refl w.heap.size w).alloc (Nat.le_refl _) (.cells #[.slice A1 n1 c1, .slice A2 n2 c2, .slice A3 n3 c3] 26)).alloc (by simp) (.cells #[.string nm, .slice Ap ps.length cp, .int .i64 res, .int .i8 bk, .string bt, .slice Ab bl cb] 47))
 have HX2 := kp (boxes_made w (.slice A1 n1 c1) (.slice A2 n2 c2) (.slice A3 n3 c3) (.string nm) (.slice Ap ps.length cp) (.int .i64 res) (.int .i8 bk) (.string bt) (.slice Ab bl cb) 26 47)
 have hmm := @run_makeMap Tryz.prog
 go_enter Tryz.func58, Tryz.ntmps58
 go_wp2_with fail
 have hz2 : ((w.alloc (.cells #[.slice A1 n1 c1, .slice A2 n2 c2, .slice A3 n3 c3] 26)).alloc (.cells #[.string nm, .slice Ap ps.length cp, .int .i64 res, .int .i8 bk, .string bt, .slice Ab bl cb] 47)).heap.size = w.heap.size + 1 + 1 := by simp
 generalize (w.alloc (.cells #[.slice A1 n1 c1, .slice A2 n2 c2, .slice A3 n3 c3] 26)).alloc (.cells #[.string nm, .slice Ap ps.length cp, .int .i64 res, .int .i8 bk, .string bt, .slice Ab bl cb] 47) = w2 at *
 have HMp := kp (show BoolMap Tryz.prog 9 4 (w2.alloc (.map #[] 0)) (w.heap.size + 1 + 1) 0 (NameIn ns 0) from by
  have := BoolMap.made w2 Tryz.prog 9 4
  rw [hz2] at this
  exact this.imp (nameIn_zero ns))
 have B3 := kp (B2.out.alloc B2.out.size (.map #[] 0))
 have HX3 := kp (HX2.out.on ((Below.refl w2.heap.size w2).alloc (Nat.le_refl _) (.map #[] 0)))
 clear hz2 HX2 B2
 generalize w2.alloc (.map #[] 0) = w3 at *
 have hbm : w.heap.size + 1 < w.heap.size + 1 + 1 := by omega
 generalize w.heap.size + 1 + 1 = bm at *
 clear hmm
 go_loopw [12] (fun v wr => ∃ k : Nat, k ≤ ps.length ∧ v = .int .i64 k ∧ pt k = true ∧ Keeps (· = bm) w3 wr ∧ BoolMap Tryz.prog 9 4 wr bm k (NameIn ns k)) (fun v _ => ps.length - (intOf v).toNat)
 case atStart => exact ⟨0, by omega, rfl, HZ.out, Keeps.refl _ _, HMp.out⟩
 case round =>
  obtain ⟨k, hk, rfl, hok, hkp, hmp⟩ := hrel
  have HO := kp hok
  have HK := kp hkp
  have B5 := kp (B3.out.trans (hkp.below (B := w.heap.size) (fun j e => by omega) B3.out.size))
  have HX5 := kp (HX3.out.keeps hkp (by show ¬ (w.heap.size = bm); omega) (by show ¬ (w.heap.size + 1 = bm); omega))
  have HM5 := kp hmp
  clear hok hkp hmp HMp
  by_cases hlt : k < ps.length
  ·have hlt2 : (k : Int) < (ps.length : Int) := by omega
   have hx := List.getElem?_eq_getElem hlt
   generalize ps[k] = p at hx
   have HL5 := kp (HLp.out wr B5.out)
   obtain ⟨b, o, vs, rfl, hbl, _, hcell, hr⟩ := HL5.out.at' hx
   obtain ⟨rfl, hps, hpi⟩ := hr
   have c0 := hcell 0 _ rfl
   have c1 := hcell 1 _ rfl
   rw [Nat.add_zero] at c0
   have HPk := kp (HP.out k p hx)
   have HNk := kp (HNm.out k p hx)
   clear hx hcell
   generalize p.name = y at *
   generalize p.sort = sr at *
   obtain ⟨hz5, x0, x1, x2, y1, y2, y3, y4, y5⟩ := HX5.out
   have BA := kp ((Below.refl wr.heap.size wr).alloc (Nat.le_refl _) (.cells #[.string y, .int .i64 sr] 59))
   have HM6 := kp (HM5.out.alloc (.cells #[.string y, .int .i64 sr] 59))
   obtain ⟨c, hlk, hcS⟩ := HM6.out.look string_key Tryz.underlying147 Tryz.underlying4 zero_bool (keyOf_str hps)
   have z6 : wr.heap.size < (wr.alloc (.cells #[.string y, .int .i64 sr] 59)).heap.size := by simp
   have q0 : (wr.alloc (.cells #[.string y, .int .i64 sr] 59)).cell? ⟨wr.heap.size, 0, none⟩ = some (.string y) := by rw [World.cell?_alloc_mark]; rfl
   have q1 : (wr.alloc (.cells #[.string y, .int .i64 sr] 59)).cell? ⟨wr.heap.size, 1, none⟩ = some (.int .i64 sr) := by rw [World.cell?_alloc_mark]; rfl
   rw [nameIn_has] at hcS
   have HC := kp hcS
   clear hcS
   generalize hw6 : wr.alloc (.cells #[.string y, .int .i64 sr] 59) = w6 at *
   have B6 := kp (B5.out.trans (BA.out.mono B5.out.size))
   have K6 := kp (HK.out.trans_same (Keeps.of_below BA.out _))
   have HX6 := kp (HX5.out.on BA.out)
   have HU := kp (usable_any y w6 hps)
   have HPu := kp (show pb k = (usableB (Lx.bs y) && thereB n1 sr && !hasB (List.take k ns) y) from HPk.out)
   clear HX5 hz5 HPk
   cases c with
   | true =>
    have HR := kp (show mb = false by rw [HE.out]; simp [HPx.out k hlt (by rw [HPu.out, HC.out.1 rfl]; simp)])
    go_wp2_with fail
    go_ret
    exact ⟨ret_bool HR.out.symm, B6.out⟩
   | false =>
    have HNo := kp (show hasB (List.take k ns) y = false by cases hh : hasB (List.take k ns) y with | false => rfl | true => exact absurd (HC.out.2 hh) (by simp))
    replace HPu := kp (show pb k = (usableB (Lx.bs y) && thereB n1 sr) by rw [HPu.out, HNo.out]; simp)
    go_wp2_with fail
    clear hw6 x0 x1 x2 y1 y2 y3 y4 y5 c0 c1
    generalize usableB (Lx.bs y) = bu at *
    cases bu with
    | false =>
     have HR := kp (show mb = false by rw [HE.out]; simp [HPx.out k hlt (by rw [HPu.out]; rfl)])
     refine HU.out.mono ?_
     rintro e w7 ⟨rfl, rfl⟩
     go_wp2_with fail
     go_ret
     exact ⟨ret_bool HR.out.symm, B6.out⟩
    | true =>
     refine HU.out.mono ?_
     rintro e w7 ⟨rfl, rfl⟩
     obtain ⟨hz6, x0, x1, x2, y1, y2, y3, y4, y5⟩ := HX6.out
     have hcall := HTh.out sr w6
     go_wp2_with fail
     clear x0 x1 x2 y1 y2 y3 y4 y5
     cases ht : thereB n1 sr with
     | false =>
      have HR := kp (show mb = false by rw [HE.out]; simp [HPx.out k hlt (by rw [HPu.out, ht]; rfl)])
      rw [ht] at hcall
      clear ht
      refine hcall.mono ?_
      rintro e w7 ⟨rfl, hb⟩
      have B7 := kp (B6.out.trans (hb.mono B6.out.size))
      clear hb
      go_wp2_with fail
      go_ret
      exact ⟨ret_bool HR.out.symm, B7.out⟩
     | true =>
      have HR := kp (show pt (k + 1) = true by rw [HPs.out, HO.out, HPu.out, ht]; rfl)
      rw [ht] at hcall
      clear ht
      refine hcall.mono ?_
      rintro e w7 ⟨rfl, hb⟩
      have K7 := kp (K6.out.trans_same (Keeps.of_below hb _))
      have HM7 := kp (HM6.out.below hb)
      have r0 := ((bcell hb).1 wr.heap.size 0 z6).trans q0
      obtain ⟨w8, hup, hm8, hg8⟩ := HM7.out.store string_key Tryz.underlying147 Tryz.underlying4 (by have := HPL.out; omega) (keyOf_str hps)
      have HM8 := kp (hm8.imp (nameIn_succ HNk.out))
      have K8 := kp (K7.out.grown hg8 (fun j hj => by left; simpa using hj.symm))
      clear hb hm8 hg8 q0 q1 hcall hlk
      go_wp2_with fail
      go_roundw
      case rel => exact ⟨k + 1, by omega, by go_num, HR.out, K8.out, HM8.out⟩
      case measure => simp [intOf]; omega
  ·obtain rfl : k = ps.length := by omega
   obtain ⟨hz5, x0, x1, x2, y1, y2, y3, y4, y5⟩ := HX5.out
   by_cases h3 : (ps.length : Int) ≤ 3
   ·have h3' : decide ((ps.length : Int) ≤ 3) = true := decide_eq_true h3
    replace HE := kp (show mb = (thereB n1 res && bm') by rw [HE.out, HO.out, decide_eq_true (show ps.length ≤ 3 by omega)]; simp)
    have hcall := HTh.out res wr
    go_wp2_with fail
    clear x0 x1 x2 y1 y2 y3 y4 y5
    cases ht : thereB n1 res with
    | false =>
     replace HE := kp (show mb = false by rw [HE.out, ht]; rfl)
     rw [ht] at hcall
     clear ht
     refine hcall.mono ?_
     rintro e w7 ⟨rfl, hb⟩
     have B7 := kp (B5.out.trans (hb.mono B5.out.size))
     clear hb
     go_wp2_with fail
     go_ret
     exact ⟨ret_bool HE.out.symm, B7.out⟩
    | true =>
     replace HE := kp (show mb = bm' by rw [HE.out, ht]; rfl)
     rw [ht] at hcall
     clear ht
     refine hcall.mono ?_
     rintro e w7 ⟨rfl, hb⟩
     have B7 := kp (B5.out.trans (hb.mono B5.out.size))
     obtain ⟨hz7, x0, x1, x2, y1, y2, y3, y4, y5⟩ := HX5.out.on hb
     clear hb hcall
     have hcall := HSx.out w7 B7.out
     go_wp2_with fail
     refine hcall.mono ?_
     rintro e w8 ⟨rfl, hb⟩
     have B8 := kp (B7.out.trans (hb.mono B7.out.size))
     clear hb
     go_wp2_with fail
     go_ret
     exact ⟨ret_bool HE.out.symm, B8.out⟩
   ·have h3' : decide ((ps.length : Int) ≤ 3) = false := decide_eq_false h3
    replace HE := kp (show mb = false by rw [HE.out, decide_eq_false (show ¬ ps.length ≤ 3 by omega)]; rfl)
    go_wp2_with fail
    go_ret
    exact ⟨ret_bool HE.out.symm, B5.out⟩
end Go.Proofs.YtpmdcckapddchaaGreat.Sg
