import Derived.Test.YtfcmpfaonpnbaaaDoorMe
import Derived.Test.YtfcmpfaonpnbaaaDoorMb
import Derived.Test.YtfcmpfaonpnbaaaDoorMc
import Derived.Test.YtfcmpfaonpnbaaaDoorMa
import Derived.Maps.OwnSet
import Derived.Maps.Views
import Derived.Maps.Keyed
import Derived.MapViews
import Derived.DeepKeys4
import Derived.DeepKeys5
/- merged by wip/merge.py from: SigChkA Great4 SexpStands Maps Keys -/
/- The document's Check: what stands at the head of a round. -/
namespace Go.Proofs.YtfcmpfaonpnbaaaDoor.Sg
open Go.RowKit Go.Proofs.YtfcmpfaonpnbaaaDoor.Dt

/-- what stands in memory at a round's head -/
structure RC (g : Sig) (w : World) (u0 u1 u2 : Value) (wr : World) (v1 v2 v3 : Value) (k1 k2 k3 : Nat) : Prop where
  keep : Below w.heap.size w wr
  g0 : wr.cell? ⟨w.heap.size, 0, none⟩ = some u0
  g1 : wr.cell? ⟨w.heap.size, 1, none⟩ = some u1
  g2 : wr.cell? ⟨w.heap.size, 2, none⟩ = some u2
  ob : wr.heap[w.heap.size + 1]? = some (.cells #[v1, v2, v3] 26 (0, 0))
  r1 : Grows 1 StrR 9 w (w.heap.size + 2) wr v1 (g.sorts.take k1)
  r2 : Grows 6 FunR 68 w (w.heap.size + 2) wr v2 (g.funs.take k2)
  r3 : Grows 6 MacroR 56 w (w.heap.size + 2) wr v3 (g.macros.take k3)
  d12 : ∀ k, v1.ownBlock = some k → v2.ownBlock ≠ some k
  d13 : ∀ k, v1.ownBlock = some k → v3.ownBlock ≠ some k
  d23 : ∀ k, v2.ownBlock = some k → v3.ownBlock ≠ some k
section
variable {g : Sig} {w wr w' : World} {u0 u1 u2 v1 v2 v3 : Value} {k1 k2 k3 : Nat}
theorem RC.lt (h : RC g w u0 u1 u2 wr v1 v2 v3 k1 k2 k3) : w.heap.size + 1 < wr.heap.size := lt_of_block h.ob
theorem RC.below (h : RC g w u0 u1 u2 wr v1 v2 v3 k1 k2 k3) (hb : Below wr.heap.size wr w') : RC g w u0 u1 u2 w' v1 v2 v3 k1 k2 k3 := by
  have l := h.lt
  have e := fun o => (bcell hb).1 w.heap.size o (by omega)
  exact ⟨h.keep.trans (hb.mono h.keep.size), (e 0).trans h.g0, (e 1).trans h.g1, (e 2).trans h.g2, (hb.block _ l).trans h.ob, h.r1.below hb, h.r2.below hb, h.r3.below hb, h.d12, h.d13, h.d23⟩
theorem RC.drew (h : RC g w u0 u1 u2 wr v1 v2 v3 k1 k2 k3) : RC g w u0 u1 u2 wr.drew v1 v2 v3 k1 k2 k3 := h.below (Below.refl _ _).drew
theorem RC.alloc (h : RC g w u0 u1 u2 wr v1 v2 v3 k1 k2 k3) (o : Obj) : RC g w u0 u1 u2 (wr.alloc o) v1 v2 v3 k1 k2 k3 := h.below ((Below.refl _ _).alloc (Nat.le_refl _) o)
theorem RC.o (h : RC g w u0 u1 u2 wr v1 v2 v3 k1 k2 k3) : wr.cell? ⟨w.heap.size + 1, 0, none⟩ = some v1 ∧ wr.cell? ⟨w.heap.size + 1, 1, none⟩ = some v2 ∧ wr.cell? ⟨w.heap.size + 1, 2, none⟩ = some v3 ∧ ∀ j, wr.frozen? ⟨w.heap.size + 1, j, none⟩ = false :=
  ⟨by rw [cell_of_cells h.ob]; rfl, by rw [cell_of_cells h.ob]; rfl, by rw [cell_of_cells h.ob]; rfl, fun j => frozen_of_cells h.ob j⟩
theorem take_len {α : Type} {l : List α} {k : Nat} (h : k ≤ l.length) : (l.take k).length = k := by rw [List.length_take]; omega
theorem RC.shape (h : RC g w u0 u1 u2 wr v1 v2 v3 k1 k2 k3) (h1 : k1 ≤ g.sorts.length) (h2 : k2 ≤ g.funs.length) (h3 : k3 ≤ g.macros.length) :
    (∃ A c, v1 = .slice A k1 c ∧ k1 ≤ c ∧ c ≤ maxLen) ∧ (∃ A c, v2 = .slice A k2 c ∧ k2 ≤ c ∧ c ≤ maxLen) ∧ (∃ A c, v3 = .slice A k3 c ∧ k3 ≤ c ∧ c ≤ maxLen) := by
  have a := h.r1.shape
  have b := h.r2.shape
  have c := h.r3.shape
  rw [take_len h1] at a
  rw [take_len h2] at b
  rw [take_len h3] at c
  exact ⟨a, b, c⟩
theorem RC.sig {A1 A2 A3 : Option Addr} {c1 c2 c3 : Nat} (h : RC g w u0 u1 u2 wr (.slice A1 k1 c1) (.slice A2 k2 c2) (.slice A3 k3 c3) k1 k2 k3) (h1 : k1 ≤ g.sorts.length) (h2 : k2 ≤ g.funs.length) (h3 : k3 ≤ g.macros.length) :
    SigAt wr A1 c1 A2 c2 A3 c3 ⟨g.sorts.take k1, g.funs.take k2, g.macros.take k3⟩ := by
  obtain ⟨⟨a, b, e1, p1, q1⟩, ⟨a', b', e2, p2, q2⟩, ⟨a'', b'', e3, p3, q3⟩⟩ := h.shape h1 h2 h3
  simp only [Value.slice.injEq] at e1 e2 e3
  have r1 := h.r1
  have r2 := h.r2
  have r3 := h.r3
  have t1 := take_len h1
  have t2 := take_len h2
  have t3 := take_len h3
  have x1 : Value.slice A1 k1 c1 = .slice A1 (g.sorts.take k1).length c1 := by rw [t1]
  have x2 : Value.slice A2 k2 c2 = .slice A2 (g.funs.take k2).length c2 := by rw [t2]
  have x3 : Value.slice A3 k3 c3 = .slice A3 (g.macros.take k3).length c3 := by rw [t3]
  rw [x1] at r1
  rw [x2] at r2
  rw [x3] at r3
  exact ⟨r1.lies StrR.lasts h.keep, r2.lies FunR.lasts h.keep, r3.lies MacroR.lasts h.keep, by rw [t1]; omega, by rw [t2]; omega, by rw [t3]; omega, by omega, by omega, by omega⟩
theorem shape_of_owns {w : World} {B n s : Nat} {t : TypeId} {v : Value} {xs : List Value} (h : w.ownsRow B t s v n xs) : ∃ A c, v = .slice A n c := by
  rcases h.2 with ⟨rfl, rfl⟩ | ⟨g, cap, cur, rfl, _⟩
  · exact ⟨none, 0, rfl⟩
  · exact ⟨_, cap, rfl⟩
/-- what a growth and a store leave alone -/
theorem RC.frame {v v' : Value} {j : Nat} (h : RC g w u0 u1 u2 wr v1 v2 v3 k1 k2 k3) (hg : wr.grownBy w' v.ownBlock) (hv : ∀ k, v.ownBlock = some k → w.heap.size + 2 ≤ k) :
    Below w.heap.size w (w'.setCell ⟨w.heap.size + 1, j, none⟩ v') ∧ (w'.setCell ⟨w.heap.size + 1, j, none⟩ v').cell? ⟨w.heap.size, 0, none⟩ = some u0 ∧ (w'.setCell ⟨w.heap.size + 1, j, none⟩ v').cell? ⟨w.heap.size, 1, none⟩ = some u1 ∧ (w'.setCell ⟨w.heap.size + 1, j, none⟩ v').cell? ⟨w.heap.size, 2, none⟩ = some u2 ∧
      (w'.setCell ⟨w.heap.size + 1, j, none⟩ v').heap[w.heap.size + 1]? = some (.cells ((#[v1, v2, v3] : Array Value).setIfInBounds j v') 26 (0, 0)) := by
  have l := h.lt
  have hbk : ∀ k, k < w.heap.size + 2 → some k ≠ v.ownBlock := fun k hk e => by have := hv k e.symm; omega
  have hgb : (w'.setCell ⟨w.heap.size + 1, j, none⟩ v').heap[w.heap.size]? = wr.heap[w.heap.size]? := (Below.heap_setCell w' ⟨w.heap.size + 1, j, none⟩ v' w.heap.size (by simp)).trans (hg.block _ (by omega) (hbk _ (by omega)))
  have e := fun o => World.cell?_of_block (w := wr) (w' := w'.setCell ⟨w.heap.size + 1, j, none⟩ v') (a := ⟨w.heap.size, o, none⟩) hgb
  refine ⟨?_, (e 0).trans h.g0, (e 1).trans h.g1, (e 2).trans h.g2, ?_⟩
  · exact (h.keep.grown hg h.keep.size (fun k hk => by have := hv k hk; omega)).setCell (by simp) _
  · have := (hg.block _ l (hbk _ (by omega))).trans h.ob
    simp [World.setCell, Array.getElem?_modify, this]
theorem RC.grown {v : Value} (h : RC g w u0 u1 u2 wr v1 v2 v3 k1 k2 k3) (hg : wr.grownBy w' v.ownBlock) (hv : ∀ k, v.ownBlock = some k → w.heap.size + 2 ≤ k) :
    w'.cell? ⟨w.heap.size + 1, 0, none⟩ = some v1 ∧ w'.cell? ⟨w.heap.size + 1, 1, none⟩ = some v2 ∧ w'.cell? ⟨w.heap.size + 1, 2, none⟩ = some v3 ∧ ∀ j, w'.frozen? ⟨w.heap.size + 1, j, none⟩ = false := by
  have e := (hg.block _ h.lt (fun e => by have := hv _ e.symm; omega)).trans h.ob
  exact ⟨by rw [cell_of_cells e]; rfl, by rw [cell_of_cells e]; rfl, by rw [cell_of_cells e]; rfl, fun j => frozen_of_cells e j⟩
/-- the 1 row has grown -/
theorem RC.push1 {x : ByteArray} {vals vs : List Value} {v' : Value} (h : RC g w u0 u1 u2 wr v1 v2 v3 k1 k2 k3) (hk : k1 ≤ g.sorts.length) (hx : g.sorts[k1]? = some x) (hl : vals.length = k1 * 1)
    (hr : ∀ i x, (g.sorts.take k1)[i]? = some x → ∃ vs : List Value, vs.length = 1 ∧ StrR w vs x ∧ ∀ j u, vs[j]? = some u → vals[i * 1 + j]? = some u)
    (ho : w'.ownsRow (w.heap.size + 2) 9 1 v' (k1 + 1) (vals ++ vs)) (hg : wr.grownBy w' v1.ownBlock) (hat : v'.ownBlock = v1.ownBlock ∨ v'.ownBlock = some wr.heap.size) (hR : StrR w vs x) (hvs : vs.length = 1) :
    RC g w u0 u1 u2 (w'.setCell ⟨w.heap.size + 1, 0, none⟩ v') v' v2 v3 (k1 + 1) k2 k3 := by
  obtain ⟨f1, f2, f3, f4, f5⟩ := h.frame (j := 0) (v' := v') hg (fun k hk => (h.r1.lt k hk).1)
  have t := take_len hk
  have e : g.sorts.take (k1 + 1) = g.sorts.take k1 ++ [x] := by rw [List.take_add_one, hx]; rfl
  have n2 : v2.ownBlock = none ∨ v2.ownBlock ≠ v1.ownBlock := by cases hb : v2.ownBlock with | none => exact .inl rfl | some k => exact .inr (fun e => h.d12 k e.symm hb)
  have n3 : v3.ownBlock = none ∨ v3.ownBlock ≠ v1.ownBlock := by cases hb : v3.ownBlock with | none => exact .inl rfl | some k => exact .inr (fun e => h.d13 k e.symm hb)
  refine ⟨f1, f2, f3, f4, f5, by rw [e]; exact (Grows.push (xs := g.sorts.take k1) (by rw [t]; exact hl) hr (by rw [t]; exact ho) hR hvs).setCell _ (by simp), (h.r2.kept hg n2).setCell _ (by simp), (h.r3.kept hg n3).setCell _ (by simp), ?_, ?_, ?_⟩
  · intro k hk he
    rcases hat with q | q
    · exact h.d12 k (q.symm.trans hk) he
    · have := (h.r2.lt k he).2
      rw [q] at hk; simp at hk; omega
  · intro k hk he
    rcases hat with q | q
    · exact h.d13 k (q.symm.trans hk) he
    · have := (h.r3.lt k he).2
      rw [q] at hk; simp at hk; omega
  · exact h.d23
/-- the 2 row has grown -/
theorem RC.push2 {x : Fun4} {vals vs : List Value} {v' : Value} (h : RC g w u0 u1 u2 wr v1 v2 v3 k1 k2 k3) (hk : k2 ≤ g.funs.length) (hx : g.funs[k2]? = some x) (hl : vals.length = k2 * 6)
    (hr : ∀ i x, (g.funs.take k2)[i]? = some x → ∃ vs : List Value, vs.length = 6 ∧ FunR w vs x ∧ ∀ j u, vs[j]? = some u → vals[i * 6 + j]? = some u)
    (ho : w'.ownsRow (w.heap.size + 2) 68 6 v' (k2 + 1) (vals ++ vs)) (hg : wr.grownBy w' v2.ownBlock) (hat : v'.ownBlock = v2.ownBlock ∨ v'.ownBlock = some wr.heap.size) (hR : FunR w vs x) (hvs : vs.length = 6) :
    RC g w u0 u1 u2 (w'.setCell ⟨w.heap.size + 1, 1, none⟩ v') v1 v' v3 k1 (k2 + 1) k3 := by
  obtain ⟨f1, f2, f3, f4, f5⟩ := h.frame (j := 1) (v' := v') hg (fun k hk => (h.r2.lt k hk).1)
  have t := take_len hk
  have e : g.funs.take (k2 + 1) = g.funs.take k2 ++ [x] := by rw [List.take_add_one, hx]; rfl
  have n1 : v1.ownBlock = none ∨ v1.ownBlock ≠ v2.ownBlock := by cases hb : v1.ownBlock with | none => exact .inl rfl | some k => exact .inr (fun e => h.d12 k hb e.symm)
  have n3 : v3.ownBlock = none ∨ v3.ownBlock ≠ v2.ownBlock := by cases hb : v3.ownBlock with | none => exact .inl rfl | some k => exact .inr (fun e => h.d23 k e.symm hb)
  refine ⟨f1, f2, f3, f4, f5, (h.r1.kept hg n1).setCell _ (by simp), by rw [e]; exact (Grows.push (xs := g.funs.take k2) (by rw [t]; exact hl) hr (by rw [t]; exact ho) hR hvs).setCell _ (by simp), (h.r3.kept hg n3).setCell _ (by simp), ?_, ?_, ?_⟩
  · intro k hk he
    rcases hat with q | q
    · exact h.d12 k hk (q.symm.trans he)
    · have := (h.r1.lt k hk).2
      rw [q] at he; simp at he; omega
  · exact h.d13
  · intro k hk he
    rcases hat with q | q
    · exact h.d23 k (q.symm.trans hk) he
    · have := (h.r3.lt k he).2
      rw [q] at hk; simp at hk; omega
/-- the 3 row has grown -/
theorem RC.push3 {x : Macro} {vals vs : List Value} {v' : Value} (h : RC g w u0 u1 u2 wr v1 v2 v3 k1 k2 k3) (hk : k3 ≤ g.macros.length) (hx : g.macros[k3]? = some x) (hl : vals.length = k3 * 6)
    (hr : ∀ i x, (g.macros.take k3)[i]? = some x → ∃ vs : List Value, vs.length = 6 ∧ MacroR w vs x ∧ ∀ j u, vs[j]? = some u → vals[i * 6 + j]? = some u)
    (ho : w'.ownsRow (w.heap.size + 2) 56 6 v' (k3 + 1) (vals ++ vs)) (hg : wr.grownBy w' v3.ownBlock) (hat : v'.ownBlock = v3.ownBlock ∨ v'.ownBlock = some wr.heap.size) (hR : MacroR w vs x) (hvs : vs.length = 6) :
    RC g w u0 u1 u2 (w'.setCell ⟨w.heap.size + 1, 2, none⟩ v') v1 v2 v' k1 k2 (k3 + 1) := by
  obtain ⟨f1, f2, f3, f4, f5⟩ := h.frame (j := 2) (v' := v') hg (fun k hk => (h.r3.lt k hk).1)
  have t := take_len hk
  have e : g.macros.take (k3 + 1) = g.macros.take k3 ++ [x] := by rw [List.take_add_one, hx]; rfl
  have n1 : v1.ownBlock = none ∨ v1.ownBlock ≠ v3.ownBlock := by cases hb : v1.ownBlock with | none => exact .inl rfl | some k => exact .inr (fun e => h.d13 k hb e.symm)
  have n2 : v2.ownBlock = none ∨ v2.ownBlock ≠ v3.ownBlock := by cases hb : v2.ownBlock with | none => exact .inl rfl | some k => exact .inr (fun e => h.d23 k hb e.symm)
  refine ⟨f1, f2, f3, f4, f5, (h.r1.kept hg n1).setCell _ (by simp), (h.r2.kept hg n2).setCell _ (by simp), by rw [e]; exact (Grows.push (xs := g.macros.take k3) (by rw [t]; exact hl) hr (by rw [t]; exact ho) hR hvs).setCell _ (by simp), ?_, ?_, ?_⟩
  · exact h.d12
  · intro k hk he
    rcases hat with q | q
    · exact h.d13 k hk (q.symm.trans he)
    · have := (h.r1.lt k hk).2
      rw [q] at he; simp at he; omega
  · intro k hk he
    rcases hat with q | q
    · exact h.d23 k hk (q.symm.trans he)
    · have := (h.r2.lt k hk).2
      rw [q] at he; simp at he; omega
end
end Go.Proofs.YtfcmpfaonpnbaaaDoor.Sg
/- The statements' own bounds: what is too great to be asked. -/
namespace Go.Proofs.YtfcmpfaonpnbaaaDoor.Gr
open Go.RowKit Go.Proofs.YtfcmpfaonpnbaaaDoor.Dt Go.Proofs.YtfcmpfaonpnbaaaDoor.Sg

def SomeInt (e : Ending) : Prop := ∃ r : Int, I64 r ∧ e = .returned (.int .i64 r)
theorem someInt {r : Int} (h : I64 r) : SomeInt (.returned (.int .i64 r)) := ⟨r, h, rfl⟩
set_option maxRecDepth 100000 in
set_option maxHeartbeats 3200000 in
theorem size_any : ∀ (n : Nat) (x : Sexp), SizeOf.sizeOf x < n → ∀ (w : World) (A : Option Addr) (c : Nat) (most : Int), SexpR w [.int .i8 x.kind, .string x.text, .slice A x.l.length c] x →
    Calls Tryd.prog 16 #[.agg #[.int .i8 x.kind, .string x.text, .slice A x.l.length c], .int .i64 most] w fun e w' => SomeInt e ∧ Below w.heap.size w w' := by
  intro n
  induction n with
  | zero => intro x hx; omega
  | succ n ih =>
    intro x hx w A c most hr
    have IH := Lib.hid ih
    obtain ⟨A0, c0, e0, hl, hc, hcm, ht, hlb, _⟩ := hr.open'
    simp only [List.cons.injEq, Value.slice.injEq, and_true, true_and] at e0
    obtain ⟨rfl, rfl⟩ := e0
    have HL := Lib.hid hl
    have HX := Lib.hid hx
    have HM := Lib.hid (fun y (hy : y ∈ x.l) => Sexp.mem_lt hy)
    obtain ⟨g0, g1, g2⟩ := sig_cells w (.int .i8 x.kind) (.string x.text) (.slice A x.l.length c) 54
    have B0 := Lib.hid ((Below.refl w.heap.size w).alloc (Nat.le_refl _) (.cells #[.int .i8 x.kind, .string x.text, .slice A x.l.length c] 54))
    have hz : w.heap.size < (w.alloc (.cells #[.int .i8 x.kind, .string x.text, .slice A x.l.length c] 54)).heap.size := by simp
    have hlb2 : (x.l.length : Int) ≤ 140737488351232 := by omega
    generalize x.l = l at *
    generalize x.text = t at *
    generalize x.kind = kd at *
    clear hl hr hx ih hlb
    have HC := Lib.hid (fun W (hW : Below (w.alloc (.cells #[.int .i8 kd, .string t, .slice A l.length c] 54)).heap.size (w.alloc (.cells #[.int .i8 kd, .string t, .slice A l.length c] 54)) W) => ((bcell hW).1 w.heap.size 2 hz).trans g2)
    have HT := Lib.hid (show I64 (1 + (t.size : Int)) from ⟨by omega, by omega⟩)
    have H5 := Lib.hid (show I64 5001 from ⟨by omega, by omega⟩)
    clear g0 g2 hz
    have HZ : 0 < 1 := by omega
    by_cases ht5 : (5000 : Int) < (t.size : Int)
    all_goals
      go_enter Tryd.func16, Tryd.ntmps16
      go_wp2_with fail
      generalize w.alloc (.cells #[.int .i8 kd, .string t, .slice A l.length c] 54) = w0 at *
      go_loopw [5, 6] (fun v i wr => ∃ (k : Nat) (z : Int), k ≤ l.length ∧ i = .int .i64 k ∧ v = .int .i64 z ∧ I64 z ∧ Below w0.heap.size w0 wr) (fun _ i _ => l.length - (intOf i).toNat)
      case atStart => first | exact ⟨0, _, by omega, rfl, rfl, HT.out, Below.refl _ _⟩ | exact ⟨0, _, by omega, rfl, rfl, H5.out, Below.refl _ _⟩
      case round =>
        obtain ⟨k, z, hk, rfl, rfl, hzi, hb⟩ := hrel
        have HZi := Lib.hid hzi
        have HB := Lib.hid hb
        have q2 := HC.out wr hb
        have HBw := Lib.hid (B0.out.trans (hb.mono B0.out.size))
        clear hzi hb
        by_cases hlt : k < l.length
        · have hlt2 : (k : Int) < (l.length : Int) := by omega
          by_cases hzm : z < most
          · have hzm' := decide_eq_true hzm
            have hy := List.getElem?_eq_getElem hlt
            have hym := List.getElem_mem hlt
            generalize l[k] = y at hy hym
            obtain ⟨b, o, A', c', rfl, hbl, e0, e1, e2, hr⟩ := sexp_cells (HL.out.on SexpR.lasts HBw.out) hy
            have HY := Lib.hid (fun W m (hW : Below wr.heap.size wr W) => IH.out y (by have h1 := HM.out y hym; have h2 := HX.out; omega) W A' c' m (SexpR.lasts _ _ _ _ hW hr))
            clear hr hy hym
            go_wp2_with fail
            refine (HY.out _ _ (Below.refl _ _)).mono ?_
            rintro e w2 ⟨⟨r, hri, rfl⟩, hb2⟩
            have HB2 := Lib.hid (HB.out.trans (hb2.mono HB.out.size))
            have HI2 := Lib.hid (I64_wrap (z + r))
            clear hb2
            go_wp2_with fail
            go_roundw
            case rel => exact ⟨k + 1, _, by omega, by go_num, rfl, HI2.out, HB2.out⟩
            case measure => simp [intOf]; omega
          · have hzm' := decide_eq_false hzm
            have HS := Lib.hid (someInt HZi.out)
            go_wp2_with fail
            go_ret
            exact ⟨HS.out, HBw.out⟩
        · have hge : decide ((k : Int) < (l.length : Int)) = false := decide_eq_false (by omega)
          have HS := Lib.hid (someInt HZi.out)
          go_wp2_with fail
          go_ret
          exact ⟨HS.out, HBw.out⟩

def GreatPost (P : Prop) (e : Ending) : Prop := ∃ b : Bool, e = .returned (.bool b) ∧ (b = false → P)
theorem great_yes {P : Prop} : GreatPost P (.returned (.bool true)) := ⟨true, rfl, fun h => by cases h⟩
theorem great_no {P : Prop} (b : Bool) (h : P) : GreatPost P (.returned (.bool b)) := ⟨b, rfl, fun _ => h⟩
theorem macro_cells {w W : World} {A : Option Addr} {l : List Macro} (h : Lies 6 MacroR w A l) (hb : Below w.heap.size w W) {k : Nat} {m : Macro} (hm : l[k]? = some m) :
    ∃ b o Ap cp Ab cb, A = some ⟨b, o, none⟩ ∧ W.cell? ⟨b, o + k * 6 + 1, none⟩ = some (.slice Ap m.params.length cp) ∧ W.cell? ⟨b, o + k * 6 + 3, none⟩ = some (.int .i8 m.body.kind) ∧ W.cell? ⟨b, o + k * 6 + 3 + 1, none⟩ = some (.string m.body.text) ∧ W.cell? ⟨b, o + k * 6 + 3 + 2, none⟩ = some (.slice Ab m.body.l.length cb) ∧
      SexpR W [.int .i8 m.body.kind, .string m.body.text, .slice Ab m.body.l.length cb] m.body ∧ m.params.length ≤ maxLen := by
  obtain ⟨b, o, vs, rfl, hbl, _, hcell, Ap, cp, bv, rfl, hsx, _, hpc, hcm, _⟩ := h.at' hm
  obtain ⟨Ab, cb, rfl, _⟩ := hsx.open'
  have e := fun j u (hu : _) => ((bcell hb).1 b (o + k * 6 + j) hbl).trans (hcell j u hu)
  exact ⟨b, o, Ap, cp, Ab, cb, rfl, e 1 _ rfl, e 3 _ rfl, e 4 _ rfl, e 5 _ rfl, SexpR.lasts _ _ _ _ hb hsx, by omega⟩
def Small (g : Sig) : Prop := g.sorts.length ≤ 20 ∧ g.funs.length ≤ 40 ∧ g.macros.length ≤ 40
set_option maxRecDepth 100000 in
set_option maxHeartbeats 3200000 in
theorem great4_any {w : World} {A1 A2 A3 : Option Addr} {c1 c2 c3 : Nat} {g : Sig} (h : SigAt w A1 c1 A2 c2 A3 c3 g) :
    Calls Tryd.prog 7 #[.agg #[.slice A1 g.sorts.length c1, .slice A2 g.funs.length c2, .slice A3 g.macros.length c3]] w fun e w' => GreatPost (Small g) e ∧ Below w.heap.size w w' := by
  have HMc := Lib.hid (fun W (hW : Below w.heap.size w W) k m (hm : g.macros[k]? = some m) => macro_cells h.macros hW hm)
  obtain ⟨g0, g1, g2⟩ := sig_cells w (.slice A1 g.sorts.length c1) (.slice A2 g.funs.length c2) (.slice A3 g.macros.length c3) 26
  have B0 := Lib.hid ((Below.refl w.heap.size w).alloc (Nat.le_refl _) (.cells #[.slice A1 g.sorts.length c1, .slice A2 g.funs.length c2, .slice A3 g.macros.length c3] 26))
  have hz : w.heap.size < (w.alloc (.cells #[.slice A1 g.sorts.length c1, .slice A2 g.funs.length c2, .slice A3 g.macros.length c3] 26)).heap.size := by simp
  have HSm := Lib.hid (show (g.sorts.length ≤ 20 ∧ g.funs.length ≤ 40 ∧ g.macros.length ≤ 40) → Small g from id)
  have HY := Lib.hid (great_yes (P := Small g))
  have HN := Lib.hid (fun b (h : Small g) => great_no (P := Small g) b h)
  clear h
  generalize hn1 : g.sorts.length = n1 at *
  generalize hn2 : g.funs.length = n2 at *
  generalize hn3 : g.macros.length = n3 at *
  by_cases h1 : (20 : Int) < (n1 : Int)
  · have h1' := decide_eq_true h1
    go_enter Tryd.func7, Tryd.ntmps7
    go_wp2_with fail
    go_ret
    exact ⟨HY.out, B0.out⟩
  · have h1' := decide_eq_false h1
    by_cases h2 : (40 : Int) < (n2 : Int)
    · have h2' := decide_eq_true h2
      go_enter Tryd.func7, Tryd.ntmps7
      go_wp2_with fail
      go_ret
      exact ⟨HY.out, B0.out⟩
    · have h2' := decide_eq_false h2
      by_cases h3 : (40 : Int) < (n3 : Int)
      · have h3' := decide_eq_true h3
        go_enter Tryd.func7, Tryd.ntmps7
        go_wp2_with fail
        go_ret
        exact ⟨HY.out, B0.out⟩
      · have h3' := decide_eq_false h3
        have HS := Lib.hid (HSm.out ⟨by omega, by omega, by omega⟩)
        go_enter Tryd.func7, Tryd.ntmps7
        go_wp2_with fail
        generalize w.alloc (.cells #[.slice A1 n1 c1, .slice A2 n2 c2, .slice A3 n3 c3] 26) = w1 at *
        have HC := Lib.hid (fun W (hW : Below w1.heap.size w1 W) => ((bcell hW).1 w.heap.size 2 hz).trans g2)
        clear g0 g1 g2 hz
        go_loopw [3, 4] (fun v i wr => ∃ (k : Nat) (z : Int), k ≤ n3 ∧ i = .int .i64 k ∧ v = .int .i64 z ∧ I64 z ∧ Below w1.heap.size w1 wr) (fun _ i _ => n3 - (intOf i).toNat)
        case atStart => exact ⟨0, 0, by omega, rfl, rfl, ⟨by omega, by omega⟩, Below.refl _ _⟩
        case round =>
          obtain ⟨k, z, hk, rfl, rfl, hzi, hb⟩ := hrel
          have HZi := Lib.hid hzi
          have HB := Lib.hid hb
          have q2 := HC.out wr hb
          have HBw := Lib.hid (B0.out.trans (hb.mono B0.out.size))
          clear hzi hb
          by_cases hlt : k < n3
          · have hlt2 : (k : Int) < (n3 : Int) := by omega
            obtain ⟨m, hm⟩ : ∃ m, g.macros[k]? = some m := ⟨_, List.getElem?_eq_getElem (by omega)⟩
            obtain ⟨b, o, Ap, cp, Ab, cb, rfl, m1, m3, m4, m5, hsx, hpl⟩ := HMc.out wr HBw.out k m hm
            have HSz := Lib.hid (size_any _ m.body (Nat.lt_succ_self _) wr Ab cb 4000 hsx)
            have HMd := Lib.hid (fun W hW => HMc.out W hW k m hm)
            have hpl2 : (m.params.length : Int) ≤ 9223372036854775807 := by unfold maxLen at hpl; omega
            clear hm hsx hpl
            go_wp2_with fail
            refine HSz.out.mono ?_
            rintro e w2 ⟨⟨r, hri, rfl⟩, hb2⟩
            have HB2 := Lib.hid (HB.out.trans (hb2.mono HB.out.size))
            have HBw2 := Lib.hid (HBw.out.trans (hb2.mono HBw.out.size))
            have HI2 := Lib.hid (I64_wrap (z + r))
            obtain ⟨b', o', Ap', cp', _, _, hA, m1', _, _, _, _, _⟩ := HMd.out w2 HBw2.out
            have hA2 : b' = b ∧ o' = o := by simp at hA; exact ⟨hA.1.symm, hA.2.symm⟩
            obtain ⟨rfl, rfl⟩ := hA2
            have q3 := HC.out w2 HB2.out
            clear hb2 m1 m3 m4 m5 hA q2 hri
            by_cases hp : (20 : Int) < (m.params.length : Int)
            · have hp' := decide_eq_true hp
              go_wp2_with fail
              go_ret
              exact ⟨HY.out, HBw2.out⟩
            · have hp' := decide_eq_false hp
              go_wp2_with fail
              go_roundw
              case rel => exact ⟨k + 1, _, by omega, by go_num, rfl, HI2.out, HB2.out⟩
              case measure => simp [intOf]; omega
          · obtain rfl : k = n3 := by omega
            have HR := Lib.hid (HN.out (decide (6000 < z)) HS.out)
            go_wp2_with fail
            all_goals
              go_ret
              exact ⟨HN.out _ HS.out, HBw.out⟩
end Go.Proofs.YtfcmpfaonpnbaaaDoor.Gr
/- Whether an expression may be, but for its depth: the program's walk. -/
namespace Go.Proofs.YtfcmpfaonpnbaaaDoor.Dt
open Go.RowKit

/-- an expression's three cells at the head of a block -/
structure PtrAt (w : World) (b : Nat) (A : Option Addr) (c : Nat) (x : Sexp) : Prop where
  c0 : w.cell? ⟨b, 0, none⟩ = some (.int .i8 x.kind)
  c1 : w.cell? ⟨b, 1, none⟩ = some (.string x.text)
  c2 : w.cell? ⟨b, 2, none⟩ = some (.slice A x.l.length c)
  lt : b < w.heap.size
  rep : SexpR w [.int .i8 x.kind, .string x.text, .slice A x.l.length c] x
theorem PtrAt.on {w w' : World} {b : Nat} {A : Option Addr} {c : Nat} {x : Sexp} (h : PtrAt w b A c x) (hb : Below w.heap.size w w') : PtrAt w' b A c x :=
  ⟨((bcell hb).1 b 0 h.lt).trans h.c0, ((bcell hb).1 b 1 h.lt).trans h.c1, ((bcell hb).1 b 2 h.lt).trans h.c2, Nat.lt_of_lt_of_le h.lt hb.size, SexpR.lasts _ _ _ _ hb h.rep⟩
theorem PtrAt.text {w : World} {b : Nat} {A : Option Addr} {c : Nat} {x : Sexp} (h : PtrAt w b A c x) : (x.text.size : Int) ≤ 140737488351232 := by
  obtain ⟨_, _, _, _, _, _, h1, _⟩ := h.rep.open'; exact h1
theorem PtrAt.len {w : World} {b : Nat} {A : Option Addr} {c : Nat} {x : Sexp} (h : PtrAt w b A c x) : x.l.length * 48 ≤ 140737488351232 := by
  obtain ⟨_, _, _, _, _, _, _, h1, _⟩ := h.rep.open'; exact h1

set_option maxHeartbeats 1600000 in
theorem symbol_any {w : World} {b : Nat} {A : Option Addr} {c : Nat} {x : Sexp} (h : PtrAt w b A c x) :
    Calls Tryd.prog 76 #[.pointer (some ⟨b, 0, none⟩)] w fun e w' => e = .returned (.bool (x.l.isEmpty && Lx.mayB (Lx.bs x.text))) ∧ w = w' := by
  have HM := Lib.hid (Lx.may_any x.text w (by have := h.text; omega))
  have c1 := h.c1
  have c2 := h.c2
  have hl := h.len
  generalize Lx.mayB (Lx.bs x.text) = m at *
  generalize x.text = t at *
  generalize x.l = l at *
  clear h
  cases l with
  | nil =>
    simp only [List.length_nil] at c2
    go_enter Tryd.func76, Tryd.ntmps76
    go_wp2_with fail
    refine (HM.out).mono ?_
    rintro e w' ⟨rfl, rfl⟩
    go_wp2_with fail
    go_ret
    exact ⟨rfl, rfl⟩
  | cons y r =>
    have hn : (((y :: r).length : Int) == 0) = false := by rw [beq_eq_false_iff_ne, List.length_cons]; omega
    generalize (y :: r).length = n at *
    go_enter Tryd.func76, Tryd.ntmps76
    go_wp2_with fail
    go_ret
    exact ⟨rfl, rfl⟩

theorem numB_iff (l : List UInt8) : numB l = (decide (parseE l ≠ 20) && decide (l.length ≤ 100)) := by
  unfold numB parseE
  cases isNum l <;> simp
  split <;> simp
set_option maxHeartbeats 3200000 in
theorem numeral_any {w : World} {b : Nat} {A : Option Addr} {c : Nat} {x : Sexp} (h : PtrAt w b A c x) :
    Calls Tryd.prog 77 #[.pointer (some ⟨b, 0, none⟩)] w fun e w' => e = .returned (.bool (x.l.isEmpty && numB (Lx.bs x.text))) ∧ Below w.heap.size w w' := by
  have HM := Lib.hid (parse_any x.text (by have := h.text; omega) w)
  have HP := Lib.hid (fun W (hW : Below w.heap.size w W) => show W.cell? ⟨b, 1, none⟩ = some (.string x.text) ∧ W.cell? ⟨b, 2, none⟩ = some (.slice A x.l.length c) from ⟨(h.on hW).c1, (h.on hW).c2⟩)
  have HN := Lib.hid (show numB (Lx.bs x.text) = (decide (parseE x.text.data.toList ≠ 20) && decide (x.text.size ≤ 100)) by rw [← Lx.bs_length x.text]; exact numB_iff _)
  have c1 := h.c1
  have hl := h.len
  have ht := h.text
  generalize parseE x.text.data.toList = pe at *
  generalize parseV x.text.data.toList = pv at *
  generalize numB (Lx.bs x.text) = nb at *
  generalize x.text = t at *
  generalize x.l = l at *
  clear h
  go_enter Tryd.func77, Tryd.ntmps77
  go_wp2_with fail
  refine HM.out.mono ?_
  rintro e w1 ⟨rfl, hb⟩
  have HB1 := Lib.hid hb
  obtain ⟨d1, d2⟩ := HP.out w1 hb
  clear hb
  cases l with
  | nil =>
    simp only [List.length_nil] at d2
    by_cases h1 : pe = 20
    · subst h1
      go_wp2_with fail
      go_ret
      exact ⟨ret_bool (by rw [HN.out]; simp), HB1.out⟩
    · have h1' : (pe == 20) = false := beq_eq_false_iff_ne.2 h1
      have h1'' : (pe != 20) = true := by rw [bne, h1']; rfl
      by_cases h2 : t.size ≤ 100
      · have h2' : (t.size : Int) ≤ 100 := by omega
        go_wp2_with fail
        go_ret
        exact ⟨ret_bool (by rw [HN.out]; simp [h1, h2]), HB1.out⟩
      · have h2' : decide ((t.size : Int) ≤ 100) = false := decide_eq_false (by omega)
        go_wp2_with fail
        go_ret
        exact ⟨ret_bool (by rw [HN.out]; simp [h2]), HB1.out⟩
  | cons y r =>
    have hn : (((y :: r).length : Int) == 0) = false := by rw [beq_eq_false_iff_ne, List.length_cons]; omega
    generalize (y :: r).length = n at *
    go_wp2_with fail
    go_ret
    exact ⟨rfl, HB1.out⟩

/-- what an index tells: whether there is one -/
def IdxPost (b : Bool) (e : Ending) : Prop := ∃ r : Int, e = .returned (.int .i64 r) ∧ decide (0 ≤ r) = b
def byteV (c : UInt8) : Value := .int .u8 c.toNat
def noSign (c : UInt8) : Bool := !Lx.signI c.toNat
set_option maxHeartbeats 800000 in
theorem keyword1_any (c : UInt8) (w : World) :
    Calls Tryd.prog 87 #[byteV c] w fun e w' => e = .returned (.bool (noSign c)) ∧ w = w' := by
  have HS := Lib.hid (Lx.sign_any (c.toNat : Int) w (by omega) (by have := c.toNat_lt; omega))
  unfold byteV noSign
  generalize Lx.signI (c.toNat : Int) = b at *
  go_enter Tryd.func87, Tryd.ntmps87
  go_wp2_with fail
  refine (HS.out).mono ?_
  rintro e w' ⟨rfl, rfl⟩
  go_wp2_with fail
  go_ret
  exact ⟨rfl, rfl⟩
set_option maxHeartbeats 1600000 in
theorem idx_bytes (xs : List UInt8) (w : World) (A : Option Addr) (c : Nat) (hc : Cells w A (xs.map byteV)) (hl : (xs.length : Int) ≤ 9223372036854775807) :
    Calls Tryd.prog 96 #[.slice A xs.length c, .func (Fn.func 87) #[] #[]] w fun e w' => IdxPost (xs.any noSign) e ∧ w = w' := by
  go_enter Tryd.func96, Tryd.ntmps96
  go_wp2_with fail
  go_loop [8] (fun v => ∃ k : Nat, k ≤ xs.length ∧ v = .int .i64 k ∧ (xs.take k).any noSign = false) (fun v => xs.length - (intOf v).toNat)
  case atStart => exact ⟨0, Nat.zero_le _, rfl, rfl⟩
  case round =>
    obtain ⟨k, hk, rfl, hn⟩ := hrel
    have HN := Lib.hid hn
    clear hn
    by_cases hlt : k < xs.length
    · have hlt2 : (k : Int) < (xs.length : Int) := by omega
      have hx := List.getElem?_eq_getElem hlt
      generalize xs[k] = x at hx
      rcases hc with h0 | ⟨b, o, rfl, hbl, hcell⟩
      · simp at h0; rw [h0] at hlt; simp at hlt
      · have c0 := hcell k (byteV x) (by simp [hx])
        have HC := Lib.hid (keyword1_any x w)
        have HX := Lib.hid hx
        clear hcell hx
        cases hq : noSign x with
        | true =>
          have HQ := Lib.hid (show xs.any noSign = true from List.any_eq_true.2 ⟨x, List.mem_of_getElem? HX.out, hq⟩)
          rw [hq] at HC
          clear hq
          go_wp2_with fail
          refine HC.out.mono ?_
          rintro e w' ⟨rfl, rfl⟩
          go_wp2_with fail
          go_ret
          exact ⟨⟨k, rfl, by rw [HQ.out]; exact decide_eq_true (by omega)⟩, rfl⟩
        | false =>
          have HQ := Lib.hid (show (xs.take (k + 1)).any noSign = false by rw [List.take_add_one, HX.out, List.any_append, HN.out]; simpa using hq)
          rw [hq] at HC
          clear hq
          go_wp2_with fail
          refine HC.out.mono ?_
          rintro e w' ⟨rfl, rfl⟩
          go_wp2_with fail
          go_round
          case rel => exact ⟨k + 1, by omega, by go_num, HQ.out⟩
          case measure => simp [intOf]; omega
    · obtain rfl : k = xs.length := by omega
      have HQ := Lib.hid (show xs.any noSign = false by have h := HN.out; rwa [List.take_length] at h)
      go_wp2_with fail
      go_ret
      exact ⟨⟨-1, rfl, by rw [HQ.out]; exact decide_eq_false (by omega)⟩, rfl⟩
set_option maxHeartbeats 800000 in
theorem contains_bytes (xs : List UInt8) (w : World) (A : Option Addr) (c : Nat) (hc : Cells w A (xs.map byteV)) (hl : (xs.length : Int) ≤ 9223372036854775807) :
    Calls Tryd.prog 86 #[.slice A xs.length c, .func (Fn.func 87) #[] #[]] w fun e w' => e = .returned (.bool (xs.any noSign)) ∧ w = w' := by
  have HI := Lib.hid (idx_bytes xs w A c hc hl)
  generalize xs.any noSign = b at *
  clear hc
  go_enter Tryd.func86, Tryd.ntmps86
  go_wp2_with fail
  refine HI.out.mono ?_
  rintro e w' ⟨⟨r, rfl, hr⟩, rfl⟩
  have HR := Lib.hid hr
  clear hr
  go_wp2_with fail
  go_ret
  exact ⟨ret_bool HR.out, rfl⟩
end Go.Proofs.YtfcmpfaonpnbaaaDoor.Dt
/- Maps of the call's own, told by what stands at which key. No condition. -/
namespace Go.Proofs.YtfcmpfaonpnbaaaDoor
open Go.RowKit Go.Maps

theorem plainElem_bool_inv {P : Program} {e : TypeId} (he : P.underlying e = some .bool) {v : Value} {z : DataW Unit × List MemPlace} (h : plainElem P e v = some z) : ∃ b, v = .bool b ∧ z = (.lit (.bool b), []) := by
  unfold plainElem at h
  rw [he] at h
  split at h
  · rename_i x _; cases h; exact ⟨_, rfl, rfl⟩
  all_goals simp_all
/-- a map to bools: S tells where true stands -/
def BoolMap (P : Program) (k e : TypeId) (w : World) (b n : Nat) (S : Value → Prop) : Prop :=
  ∃ D : DataW Unit, w.ownsMap P k (plainElem P e) b n D ∧ ∀ key kl, keyOf P k key = some kl → ∃ c, D.atKey kl (.lit (.bool false)) = .lit (.bool c) ∧ (c = true ↔ S key)
section
variable {P : Program} {k e t : TypeId} {w : World} {b n : Nat} {S : Value → Prop}
theorem BoolMap.made (w : World) (P : Program) (k e : TypeId) : BoolMap P k e (w.alloc (.map #[] 0)) w.heap.size 0 (fun _ => False) :=
  ⟨.map [], World.ownsMap_made w P k _, fun _ _ _ => ⟨false, rfl, by simp⟩⟩
theorem BoolMap.kept {w' : World} {row : Option Nat} (h : BoolMap P k e w b n S) (hg : w.grownBy w' row) (hne : some b ≠ row) : BoolMap P k e w' b n S := by
  obtain ⟨D, h1, h2⟩ := h
  exact ⟨D, h1.kept hg hne, h2⟩
theorem BoolMap.lt (h : BoolMap P k e w b n S) : b < w.heap.size := by obtain ⟨D, h1, _⟩ := h; exact h1.lt
theorem BoolMap.alloc (h : BoolMap P k e w b n S) (o : Obj) : BoolMap P k e (w.alloc o) b n S := by obtain ⟨D, h1, h2⟩ := h; exact ⟨D, h1.alloc o, h2⟩
theorem BoolMap.keeps {T : Nat → Prop} {w' : World} (h : BoolMap P k e w b n S) (hk : Keeps T w w') (hT : ¬ T b) : BoolMap P k e w' b n S := by
  obtain ⟨D, ⟨es, clock, hb, r⟩, h2⟩ := h
  exact ⟨D, ⟨es, clock, (hk.block b (lt_of_block hb) hT).trans hb, r⟩, h2⟩
theorem BoolMap.below {w' : World} (h : BoolMap P k e w b n S) (hb : Below w.heap.size w w') : BoolMap P k e w' b n S := h.keeps (Keeps.of_below hb (fun _ => False)) id
theorem BoolMap.imp {S' : Value → Prop} (h : BoolMap P k e w b n S) (hS : ∀ x, S x ↔ S' x) : BoolMap P k e w b n S' := by
  obtain ⟨D, h1, h2⟩ := h
  exact ⟨D, h1, fun key kl hk => by obtain ⟨c, a, r⟩ := h2 key kl hk; exact ⟨c, a, r.trans (hS key)⟩⟩
theorem BoolMap.look (h : BoolMap P k e w b n S) (K : Keyed P k) (ht : P.underlying t = some (.map k e)) (he : P.underlying e = some .bool) (hz : ∀ w, (zeroValue e).run P w = .ok (.bool false) w) {key : Value} {kl : Lit} (hkey : keyOf P k key = some kl) :
    ∃ c, (Instr.lookup t (.map (some b)) key false).run P w = .ok (.bool c) w ∧ (c = true ↔ S key) := by
  obtain ⟨D, h1, h2⟩ := h
  obtain ⟨v, ps, hrun, hv⟩ := h1.lookup K ht (hz w) (plainElem_bool he false) hkey
  obtain ⟨c, hc, hS⟩ := h2 key kl hkey
  obtain ⟨c', rfl, hc'⟩ := plainElem_bool_inv he hv
  rw [hc] at hc'
  simp at hc'
  exact ⟨c', hrun, by rw [← hc'.1]; exact hS⟩
theorem BoolMap.store (h : BoolMap P k e w b n S) (K : Keyed P k) (ht : P.underlying t = some (.map k e)) (he : P.underlying e = some .bool) (hn : n < maxLen) {key : Value} {kl : Lit} (hkey : keyOf P k key = some kl) :
    ∃ w', (Instr.mapUpdate t (.map (some b)) key (.bool true)).run P w = .ok () w' ∧ BoolMap P k e w' b (n + 1) (fun x => x = key ∨ S x) ∧ w.grownBy w' (some b) := by
  obtain ⟨D, h1, h2⟩ := h
  obtain ⟨w', hrun, h3, h4⟩ := h1.update K ht hn hkey (plainElem_bool he true)
  refine ⟨w', hrun, ⟨_, h3, fun x xl hx => ?_⟩, h4⟩
  by_cases hq : xl = kl
  · subst hq
    have hxk : x = key := K.inj hx hkey
    exact ⟨true, atKey_put_same h1.isMap (K.key hkey) _ _, by simp [hxk]⟩
  · obtain ⟨c, hc, hS⟩ := h2 x xl hx
    refine ⟨c, (atKey_put_other hq _ _).trans hc, hS.trans ⟨.inr, fun h => h.elim (fun e => ?_) id⟩⟩
    subst e; rw [hx] at hkey; exact absurd (Option.some.inj hkey) hq
end
theorem zero_bool (w : World) : (zeroValue 4).run Tryd.prog w = .ok (.bool false) w := by kernel_rfl
theorem string_key : Keyed Tryd.prog 9 := string_keyed Tryd.underlying9
theorem keyOf_str {s : ByteArray} (hs : (s.size : Int) ≤ 140737488351232) : keyOf Tryd.prog 9 (.string s) = some (.string s.data.toList) := WideMaps.keyOf_string_mk Tryd.underlying9 (by unfold maxLen; omega)
end Go.Proofs.YtfcmpfaonpnbaaaDoor
/- Keys of maps that are structs and arrays. No condition. -/
namespace Go.Proofs.YtfcmpfaonpnbaaaDoor
open Go.RowKit Go.Maps

theorem many_types : ∃ m, Tryd.prog.types.size = m + 2 := ⟨Tryd.prog.types.size - 2, by kernel_rfl⟩
theorem name_wide : Tryd.prog.keyType 92 = true := by kernel_rfl
theorem cName : Tryd.prog.cellsOf 92 = 2 := by kernel_rfl
theorem name_key : Keyed Tryd.prog 92 := Keyed.of_law (deep_law_gate laidOut (of_decide_eq_true (by kernel_rfl)) (of_decide_eq_true (by kernel_rfl)) name_wide (by kernel_rfl))
theorem keyOf_name {s : ByteArray} (hs : (s.size : Int) ≤ 140737488351232) (b : Bool) : ∃ kl, keyOf Tryd.prog 92 (.agg #[.string s, .bool b]) = some kl := by
  obtain ⟨m, hm⟩ := many_types
  have hs2 : s.size ≤ maxLen := by unfold maxLen; omega
  have c1 : Tryd.prog.cellsOf 9 = 1 := by kernel_rfl
  have c2 : Tryd.prog.cellsOf 4 = 1 := by kernel_rfl
  unfold keyOf
  simp only [Tryd.underlying92]
  rw [if_pos (by simp [name_wide, Value.formed, Tryd.underlying92, cName]), hm]
  simp [Program.keyLits, Tryd.underlying92, Tryd.underlying9, Tryd.underlying4, cName, c1, c2, Value.cells, hs2]
theorem a3_wide : Tryd.prog.keyType 61 = true := by kernel_rfl
theorem cArr3 : Tryd.prog.cellsOf 61 = 3 := by kernel_rfl
theorem a3_key : Keyed Tryd.prog 61 := Keyed.of_law (deep_law_gate laidOut (of_decide_eq_true (by kernel_rfl)) (of_decide_eq_true (by kernel_rfl)) a3_wide (by kernel_rfl))
theorem wf_i64 {n : Int} (h : I64 n) : (Lit.int .i64 n).wf = true := WalkArith.wf_i64 h
theorem keyOf_a3 {a b c : Int} (ha : I64 a) (hb : I64 b) (hc : I64 c) : ∃ kl, keyOf Tryd.prog 61 (.agg #[.int .i64 a, .int .i64 b, .int .i64 c]) = some kl := by
  obtain ⟨m, hm⟩ := many_types
  have c1 : Tryd.prog.cellsOf 3 = 1 := by kernel_rfl
  have w1 := wf_i64 ha
  have w2 := wf_i64 hb
  have w3 := wf_i64 hc
  have r3 : List.range 3 = [0, 1, 2] := rfl
  unfold keyOf
  simp only [Tryd.underlying61]
  rw [if_pos (by simp [a3_wide, Value.formed, Tryd.underlying61, cArr3]), hm]
  simp [Program.keyLits, Tryd.underlying61, Tryd.underlying3, cArr3, c1, Value.cells, w1, w2, w3, r3]
end Go.Proofs.YtfcmpfaonpnbaaaDoor
