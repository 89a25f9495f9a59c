import Derived.Test.YtfcmpfaonpnbaaaGreatDoorMa
import Derived.Test.YtfcmpfaonpnbaaaGreatDoorBase
import Derived.Maps.AppendAt
import Derived.RegionTactic
import Derived.OwnWalk
import Derived.WalkSmall
/- merged by wip/merge.py from: Sig SexpPlain SexpDepth Own2 Grows LexR -/
/- Expressions, signatures, worlds: plain data, and how they lie in memory. No condition. -/
namespace Go.Proofs.YtfcmpfaonpnbaaaGreatDoor.Dt
open Go.RowKit Go.ChangeShapes Go.WideShapes Go.Deep

/-- an expression -/
inductive Sexp where
  | mk (kind : Int) (text : ByteArray) (l : List Sexp)
def Sexp.kind : Sexp → Int | .mk k _ _ => k
def Sexp.text : Sexp → ByteArray | .mk _ t _ => t
def Sexp.l : Sexp → List Sexp | .mk _ _ l => l
/-- how an expression's three cells read -/
inductive SexpR (w : World) : List Value → Sexp → Prop
  | mk {k : Int} {t : ByteArray} {A : Option Addr} {c : Nat} {l : List Sexp} (b o : Nat) (vs : Nat → List Value) (hk : (Lit.int .i8 k).wf = true) (ht : (t.size : Int) ≤ 140737488351232) (hc : l.length ≤ c) (hcm : c ≤ maxLen) (hlb : l.length * 48 ≤ 140737488351232)
      (hA : l = [] ∨ (A = some ⟨b, o, none⟩ ∧ b < w.heap.size)) (hlen : ∀ i, i < l.length → (vs i).length = 3 ∧ ∀ j u, (vs i)[j]? = some u → w.cell? ⟨b, o + i * 3 + j, none⟩ = some u)
      (hr : ∀ i x, l[i]? = some x → SexpR w (vs i) x) : SexpR w [.int .i8 k, .string t, .slice A l.length c] (.mk k t l)
theorem SexpR.open' {w : World} {cs : List Value} {x : Sexp} (h : SexpR w cs x) :
    ∃ A c, cs = [.int .i8 x.kind, .string x.text, .slice A x.l.length c] ∧ Lies 3 SexpR w A x.l ∧ x.l.length ≤ c ∧ c ≤ maxLen ∧ (x.text.size : Int) ≤ 140737488351232 ∧ x.l.length * 48 ≤ 140737488351232 ∧ (Lit.int .i8 x.kind).wf = true := by
  cases h with
  | @mk k t A c l b o vs hk ht hc hcm hlb hA hlen hr =>
    refine ⟨A, c, rfl, ?_, hc, hcm, ht, hlb, hk⟩
    rcases hA with h0 | ⟨hA, hb⟩
    · exact .inl h0
    · exact .inr ⟨b, o, hA, hb, fun i x hx => ⟨vs i, (hlen i (List.getElem?_eq_some_iff.1 hx).1).1, (hlen i (List.getElem?_eq_some_iff.1 hx).1).2, hr i x hx⟩⟩
theorem SexpR.make {w : World} {A : Option Addr} {k : Int} {t : ByteArray} {c : Nat} {l : List Sexp} (hl : Lies 3 SexpR w A l) (hc : l.length ≤ c) (hcm : c ≤ maxLen) (ht : (t.size : Int) ≤ 140737488351232) (hlb : l.length * 48 ≤ 140737488351232) (hk : (Lit.int .i8 k).wf = true) :
    SexpR w [.int .i8 k, .string t, .slice A l.length c] (.mk k t l) := by
  rcases hl with h0 | ⟨b, o, hA, hb, hr⟩
  · subst h0
    exact .mk 0 0 (fun _ => []) hk ht hc hcm hlb (.inl rfl) (fun i hi => by simp at hi) (fun i x hx => by simp at hx)
  · have hch : ∀ i, ∃ vs : List Value, i < l.length → (vs.length = 3 ∧ (∀ j u, vs[j]? = some u → w.cell? ⟨b, o + i * 3 + j, none⟩ = some u)) ∧ ∀ x, l[i]? = some x → SexpR w vs x := fun i => by
      by_cases hi : i < l.length
      · obtain ⟨vs, h1, h2, h3⟩ := hr i _ (List.getElem?_eq_getElem hi)
        exact ⟨vs, fun _ => ⟨⟨h1, h2⟩, fun x hx => by rw [List.getElem?_eq_getElem hi] at hx; simp at hx; subst hx; exact h3⟩⟩
      · exact ⟨[], fun h => absurd h hi⟩
    refine .mk b o (fun i => (hch i).choose) hk ht hc hcm hlb (.inr ⟨hA, hb⟩) (fun i hi => ((hch i).choose_spec hi).1) (fun i x hx => ((hch i).choose_spec (List.getElem?_eq_some_iff.1 hx).1).2 x hx)
theorem SexpR.lasts : Lasts SexpR := by
  intro w w' vs x hb h
  induction h with
  | mk b o vs hk ht hc hcm hlb hA hlen hr ih =>
    exact .mk b o vs hk ht hc hcm hlb (hA.imp_right fun ⟨h1, h2⟩ => ⟨h1, Nat.lt_of_lt_of_le h2 hb.size⟩) (fun i hi => ⟨(hlen i hi).1, fun j u hu => by
      rcases hA with h0 | ⟨_, h2⟩
      · subst h0; simp at hi
      · exact (hb.cell (p := ⟨b, o + i * 3 + j, none⟩) h2).trans ((hlen i hi).2 j u hu)⟩) ih

/-- a function's declaration -/
structure Fun4 where
  name : ByteArray
  len : Int
  a0 : Int
  a1 : Int
  a2 : Int
  res : Int
def FunR (_ : World) (vs : List Value) (f : Fun4) : Prop := vs = [.string f.name, .int .i64 f.len, .int .i64 f.a0, .int .i64 f.a1, .int .i64 f.a2, .int .i64 f.res] ∧ (f.name.size : Int) ≤ 140737488351232 ∧ I64 f.len ∧ I64 f.a0 ∧ I64 f.a1 ∧ I64 f.a2 ∧ I64 f.res
theorem FunR.lasts : Lasts FunR := fun _ _ _ _ _ h => h
/-- a parameter -/
structure Param where
  name : ByteArray
  sort : Int
def ParamR (_ : World) (vs : List Value) (p : Param) : Prop := vs = [.string p.name, .int .i64 p.sort] ∧ (p.name.size : Int) ≤ 140737488351232 ∧ I64 p.sort
theorem ParamR.lasts : Lasts ParamR := fun _ _ _ _ _ h => h
/-- a definition -/
structure Macro where
  name : ByteArray
  params : List Param
  res : Int
  body : Sexp
def MacroR (w : World) (vs : List Value) (m : Macro) : Prop := ∃ A c bv, vs = .string m.name :: .slice A m.params.length c :: .int .i64 m.res :: bv ∧ SexpR w bv m.body ∧ Lies 2 ParamR w A m.params ∧ m.params.length ≤ c ∧ c ≤ maxLen ∧ (m.name.size : Int) ≤ 140737488351232 ∧ I64 m.res
theorem MacroR.lasts : Lasts MacroR := fun _ _ _ _ hb ⟨A, c, bv, h1, h2, h3, h4⟩ => ⟨A, c, bv, h1, SexpR.lasts _ _ _ _ hb h2, h3.on ParamR.lasts hb, h4⟩
/-- a signature -/
structure Sig where
  sorts : List ByteArray
  funs : List Fun4
  macros : List Macro
def strV (s : ByteArray) : Value := .string s
structure SigAt (w : World) (A1 : Option Addr) (c1 : Nat) (A2 : Option Addr) (c2 : Nat) (A3 : Option Addr) (c3 : Nat) (g : Sig) : Prop where
  sorts : Lies 1 StrR w A1 g.sorts
  funs : Lies 6 FunR w A2 g.funs
  macros : Lies 6 MacroR w A3 g.macros
  l1 : g.sorts.length ≤ c1
  l2 : g.funs.length ≤ c2
  l3 : g.macros.length ≤ c3
  m1 : c1 ≤ maxLen
  m2 : c2 ≤ maxLen
  m3 : c3 ≤ maxLen
def SigR (w : World) (vs : List Value) (g : Sig) : Prop := ∃ A1 c1 A2 c2 A3 c3, vs = [.slice A1 g.sorts.length c1, .slice A2 g.funs.length c2, .slice A3 g.macros.length c3] ∧ SigAt w A1 c1 A2 c2 A3 c3 g
theorem SigAt.on {w w' : World} {A1 A2 A3 : Option Addr} {c1 c2 c3 : Nat} {g : Sig} (h : SigAt w A1 c1 A2 c2 A3 c3 g) (hb : Below w.heap.size w w') : SigAt w' A1 c1 A2 c2 A3 c3 g :=
  ⟨h.sorts.on StrR.lasts hb, h.funs.on FunR.lasts hb, h.macros.on MacroR.lasts hb, h.l1, h.l2, h.l3, h.m1, h.m2, h.m3⟩
theorem SigR.lasts : Lasts SigR := fun _ _ _ _ hb ⟨A1, c1, A2, c2, A3, c3, h1, h2⟩ => ⟨A1, c1, A2, c2, A3, c3, h1, h2.on hb⟩

/-- a function's row -/
structure Row where
  a0 : Int
  a1 : Int
  a2 : Int
  val : Int
def RowR (_ : World) (vs : List Value) (r : Row) : Prop := vs = [.int .i64 r.a0, .int .i64 r.a1, .int .i64 r.a2, .int .i64 r.val] ∧ I64 r.a0 ∧ I64 r.a1 ∧ I64 r.a2 ∧ I64 r.val
theorem RowR.lasts : Lasts RowR := fun _ _ _ _ _ h => h
/-- what a function is -/
structure FunVal where
  rows : List Row
  els : Int
def FunValR (w : World) (vs : List Value) (f : FunVal) : Prop := ∃ A c, vs = [.slice A f.rows.length c, .int .i64 f.els] ∧ Lies 4 RowR w A f.rows ∧ f.rows.length ≤ c ∧ c ≤ maxLen ∧ I64 f.els ∧ f.rows.length * 32 ≤ 140737488351232
theorem FunValR.lasts : Lasts FunValR := fun _ _ _ _ hb ⟨A, c, h1, h2, h3⟩ => ⟨A, c, h1, h2.on RowR.lasts hb, h3⟩
/-- an interpretation -/
structure Wrld where
  sizes : List Int
  funs : List FunVal
structure WrldAt (w : World) (A1 : Option Addr) (c1 : Nat) (A2 : Option Addr) (c2 : Nat) (x : Wrld) : Prop where
  sizes : Lies 1 (IntR .i64) w A1 x.sizes
  funs : Lies 2 FunValR w A2 x.funs
  l1 : x.sizes.length ≤ c1
  l2 : x.funs.length ≤ c2
  m1 : c1 ≤ maxLen
  m2 : c2 ≤ maxLen
  b1 : x.sizes.length * 8 ≤ 140737488351232
  b2 : x.funs.length * 32 ≤ 140737488351232
def WrldR (w : World) (vs : List Value) (x : Wrld) : Prop := ∃ A1 c1 A2 c2, vs = [.slice A1 x.sizes.length c1, .slice A2 x.funs.length c2] ∧ WrldAt w A1 c1 A2 c2 x
theorem WrldAt.on {w w' : World} {A1 A2 : Option Addr} {c1 c2 : Nat} {x : Wrld} (h : WrldAt w A1 c1 A2 c2 x) (hb : Below w.heap.size w w') : WrldAt w' A1 c1 A2 c2 x :=
  ⟨h.sizes.on (IntR.lasts _) hb, h.funs.on FunValR.lasts hb, h.l1, h.l2, h.m1, h.m2, h.b1, h.b2⟩
theorem WrldR.lasts : Lasts WrldR := fun _ _ _ _ hb ⟨A1, c1, A2, c2, h1, h2⟩ => ⟨A1, c1, A2, c2, h1, h2.on hb⟩
end Go.Proofs.YtfcmpfaonpnbaaaGreatDoor.Dt
/- Expressions in plain words: how deep, whether they may be. No program in sight. -/
namespace Go.Proofs.YtfcmpfaonpnbaaaGreatDoor.Dt
open Go.RowKit

mutual
def Sexp.depth : Sexp → Int
  | .mk k _ l => if k = 3 then wrap64 (Sexp.depthL l + 1) else 0
def Sexp.depthL : List Sexp → Int
  | [] => 0
  | x :: r => max (Sexp.depth x) (Sexp.depthL r)
end
theorem Sexp.depthL_snoc (l : List Sexp) (x : Sexp) : Sexp.depthL (l ++ [x]) = max (Sexp.depthL l) (Sexp.depth x) := by
  induction l with
  | nil => simp [Sexp.depthL]; omega
  | cons y r ih => rw [List.cons_append, Sexp.depthL, ih, Sexp.depthL]; omega
theorem Sexp.depth_I64 : (x : Sexp) → I64 x.depth
  | .mk k _ l => by
    unfold Sexp.depth
    split
    · exact I64_wrap _
    · exact ⟨by omega, by omega⟩
theorem Sexp.depthL_I64 : (l : List Sexp) → 0 ≤ Sexp.depthL l ∧ Sexp.depthL l ≤ 9223372036854775807
  | [] => by simp [Sexp.depthL]
  | x :: r => by
    have h1 := Sexp.depth_I64 x
    have h2 := Sexp.depthL_I64 r
    obtain ⟨a, b⟩ := h1
    unfold Sexp.depthL
    omega
theorem Sexp.depth_eq (x : Sexp) : x.depth = if x.kind = 3 then wrap64 (Sexp.depthL x.l + 1) else 0 := by cases x; rfl

/-- may a keyword's text be -/
def keyB (l : List UInt8) : Bool := (l.all fun c => Lx.signI c.toNat) && !l.isEmpty && decide (l.length ≤ 100)
/-- may a number's text be -/
def numB (l : List UInt8) : Bool := isNum l && decide (l.length ≤ 100)
mutual
def Sexp.stands : Sexp → Bool
  | .mk k t l =>
    if k = 0 then l.isEmpty && Lx.mayB (Lx.bs t)
    else if k = 1 then l.isEmpty && numB (Lx.bs t)
    else if k = 2 then l.isEmpty && keyB (Lx.bs t)
    else if k = 3 then (Lx.bs t).isEmpty && Sexp.standsL l
    else false
def Sexp.standsL : List Sexp → Bool
  | [] => true
  | x :: r => Sexp.stands x && Sexp.standsL r
end
theorem Sexp.stands_eq (x : Sexp) : x.stands = if x.kind = 0 then x.l.isEmpty && Lx.mayB (Lx.bs x.text) else if x.kind = 1 then x.l.isEmpty && numB (Lx.bs x.text) else if x.kind = 2 then x.l.isEmpty && keyB (Lx.bs x.text) else if x.kind = 3 then (Lx.bs x.text).isEmpty && Sexp.standsL x.l else false := by
  cases x; unfold Sexp.stands; rfl
theorem Sexp.standsL_all (l : List Sexp) : Sexp.standsL l = l.all Sexp.stands := by
  induction l with
  | nil => rfl
  | cons x r ih => rw [Sexp.standsL, ih]; rfl
def Sexp.may (x : Sexp) : Bool := decide (x.depth ≤ 60) && x.stands
theorem Sexp.mem_lt {x y : Sexp} (h : y ∈ x.l) : SizeOf.sizeOf y < SizeOf.sizeOf x := by
  cases x with
  | mk k t l =>
    have := List.sizeOf_lt_of_mem h
    simp only [Sexp.l] at this
    simp only [Sexp.mk.sizeOf_spec]
    omega
end Go.Proofs.YtfcmpfaonpnbaaaGreatDoor.Dt
/- Depth: the program's walk and the document's. -/
namespace Go.Proofs.YtfcmpfaonpnbaaaGreatDoor.Dt
open Go.RowKit

theorem max_if (a b : Int) : (if a < b then b else a) = max a b := by split <;> omega
theorem sexp_cells {w : World} {A : Option Addr} {l : List Sexp} (h : Lies 3 SexpR w A l) {k : Nat} {y : Sexp} (hy : l[k]? = some y) :
    ∃ b o A' c', A = some ⟨b, o, none⟩ ∧ b < w.heap.size ∧ w.cell? ⟨b, o + k * 3, none⟩ = some (.int .i8 y.kind) ∧ w.cell? ⟨b, o + k * 3 + 1, none⟩ = some (.string y.text) ∧ w.cell? ⟨b, o + k * 3 + 2, none⟩ = some (.slice A' y.l.length c') ∧
      SexpR w [.int .i8 y.kind, .string y.text, .slice A' y.l.length c'] y := by
  obtain ⟨b, o, vs, hA, hb, _, hc, hr⟩ := h.at' hy
  obtain ⟨A', c', e, _⟩ := hr.open'
  subst e
  exact ⟨b, o, A', c', hA, hb, hc 0 _ rfl, hc 1 _ rfl, hc 2 _ rfl, hr⟩

set_option maxRecDepth 100000 in
set_option maxHeartbeats 3200000 in
theorem depth_any : ∀ (n : Nat) (x : Sexp), SizeOf.sizeOf x < n → ∀ (w : World) (A : Option Addr) (c : Nat), SexpR w [.int .i8 x.kind, .string x.text, .slice A x.l.length c] x →
    Calls Tryz.prog 86 #[.agg #[.int .i8 x.kind, .string x.text, .slice A x.l.length c]] w fun e w' => e = .returned (.int .i64 x.depth) ∧ Below w.heap.size w w' := by
  intro n
  induction n with
  | zero => intro x hx; omega
  | succ n ih =>
    intro x hx w A c hr
    have IH := Lib.hid ih
    obtain ⟨A0, c0, e0, hl, hc, hcm, _, hlb, _⟩ := hr.open'
    simp only [List.cons.injEq, Value.slice.injEq, and_true, true_and] at e0
    obtain ⟨rfl, rfl⟩ := e0
    have HE := Lib.hid (Sexp.depth_eq x)
    by_cases hk : x.kind = 3
    · replace HE := Lib.hid (HE.out.trans (if_pos hk))
      have HL := Lib.hid hl
      have HX := Lib.hid hx
      have HM := Lib.hid (fun y (hy : y ∈ x.l) => Sexp.mem_lt hy)
      rw [hk]
      generalize x.l = l at *
      generalize x.text = t at *
      generalize x.depth = d at *
      clear hl hr hk hx ih
      go_enter Tryz.func86, Tryz.ntmps86
      go_wp2_with fail
      have B0 := Lib.hid ((Below.refl w.heap.size w).alloc (Nat.le_refl _) (.cells #[.int .i8 3, .string t, .slice A l.length c] 51))
      generalize w.alloc (.cells #[.int .i8 3, .string t, .slice A l.length c] 51) = w0 at *
      go_loopw [3, 12] (fun v i wr => ∃ k : Nat, k ≤ l.length ∧ i = .int .i64 k ∧ v = .int .i64 (Sexp.depthL (l.take k)) ∧ Below w.heap.size w wr) (fun _ i _ => l.length - (intOf i).toNat)
      case atStart => exact ⟨0, Nat.zero_le _, rfl, rfl, B0.out⟩
      case round =>
        obtain ⟨k, hk, rfl, rfl, hb⟩ := hrel
        have HB := Lib.hid hb
        obtain ⟨d0, d1⟩ := Sexp.depthL_I64 (l.take k)
        by_cases hlt : k < l.length
        · have hlt2 : (k : Int) < (l.length : Int) := by omega
          have hy := List.getElem?_eq_getElem hlt
          have hym := List.getElem_mem hlt
          generalize l[k] = y at hy hym
          obtain ⟨b, o, A', c', rfl, hbl, e0, e1, e2, hr⟩ := sexp_cells (HL.out.on SexpR.lasts hb) hy
          have HY := Lib.hid (fun W (hW : Below wr.heap.size wr W) => IH.out y (by have h1 := HM.out y hym; have h2 := HX.out; omega) W A' c' (SexpR.lasts _ _ _ _ hW hr))
          have HT := Lib.hid (show Sexp.depthL (l.take (k + 1)) = max (Sexp.depthL (l.take k)) y.depth by rw [List.take_add_one, hy]; exact Sexp.depthL_snoc _ _)
          obtain ⟨f0, f1⟩ := Sexp.depth_I64 y
          generalize Sexp.depthL (l.take k) = dl at *
          clear hb hr hy hym
          go_wp2_with fail
          refine (HY.out _ ((Below.refl _ _).alloc (Nat.le_refl _) _)).mono ?_
          rintro e w2 ⟨rfl, hb2⟩
          have HB2 := Lib.hid ((HB.out.alloc HB.out.size _).trans (hb2.mono (by have := HB.out.size; simp; omega)))
          clear hb2
          go_wp2_with fail
          go_roundw
          case rel => exact ⟨k + 1, by omega, by go_num, by rw [HT.out, max_if], HB2.out⟩
          case measure => simp [intOf]; omega
        · obtain rfl : k = l.length := by omega
          rw [List.take_length] at d0 d1 ⊢
          go_wp2_with fail
          go_ret
          exact ⟨ret_int HE.out.symm, HB.out⟩
    · replace HE := Lib.hid (HE.out.trans (if_neg hk))
      have hk2 : (x.kind == 3) = false := beq_eq_false_iff_ne.2 hk
      go_enter Tryz.func86, Tryz.ntmps86
      go_wp2_with fail
      go_ret
      exact ⟨ret_int HE.out.symm, (Below.refl w.heap.size w).alloc (Nat.le_refl _) _⟩

/-- a box of an expression -/
def boxOf (x : Sexp) (A : Option Addr) (c : Nat) : Obj := .cells #[.int .i8 x.kind, .string x.text, .slice A x.l.length c] 51
theorem box_cells (w : World) (a b c : Value) (t : TypeId) : (w.alloc (.cells #[a, b, c] t)).cell? ⟨w.heap.size, 0, none⟩ = some a ∧ (w.alloc (.cells #[a, b, c] t)).cell? ⟨w.heap.size, 1, none⟩ = some b ∧ (w.alloc (.cells #[a, b, c] t)).cell? ⟨w.heap.size, 2, none⟩ = some c ∧ (w.alloc (.cells #[a, b, c] t)).heap.size = w.heap.size + 1 := by
  refine ⟨?_, ?_, ?_, by simp⟩ <;> rw [World.cell?_alloc_mark] <;> rfl

set_option maxRecDepth 100000 in
set_option maxHeartbeats 3200000 in
theorem rdepth_any : ∀ (n : Nat) (x : Sexp), SizeOf.sizeOf x < n → ∀ (w : World) (A : Option Addr) (c : Nat), SexpR w [.int .i8 x.kind, .string x.text, .slice A x.l.length c] x →
    Calls Tryz.prog 89 #[.agg #[.int .i8 x.kind, .string x.text, .slice A x.l.length c]] w fun e w' => e = .returned (.int .i64 x.depth) ∧ Below w.heap.size w w' := by
  intro n
  induction n with
  | zero => intro x hx; omega
  | succ n ih =>
    intro x hx w A c hr
    have IH := Lib.hid ih
    obtain ⟨A0, c0, e0, hl, hc, hcm, _, hlb, _⟩ := hr.open'
    simp only [List.cons.injEq, Value.slice.injEq, and_true, true_and] at e0
    obtain ⟨rfl, rfl⟩ := e0
    have HE := Lib.hid (Sexp.depth_eq x)
    by_cases hk : x.kind = 3
    · replace HE := Lib.hid (HE.out.trans (if_pos hk))
      have HX := Lib.hid hx
      have HM := Lib.hid (fun y (hy : y ∈ x.l) => Sexp.mem_lt hy)
      rw [hk]
      generalize x.l = l at *
      generalize x.text = t at *
      generalize x.depth = d at *
      clear hr hk hx ih
      go_enter Tryz.func89, Tryz.ntmps89
      go_wp2_with fail
      obtain ⟨_, _, q2, z0⟩ := box_cells w (.int .i8 3) (.string t) (.slice A l.length c) 51
      have B0 := Lib.hid ((Below.refl w.heap.size w).alloc (Nat.le_refl _) (.cells #[.int .i8 3, .string t, .slice A l.length c] 51))
      have HL := Lib.hid (hl.on SexpR.lasts B0.out)
      generalize w.alloc (.cells #[.int .i8 3, .string t, .slice A l.length c] 51) = w0 at *
      clear hl
      go_loopw [3, 4] (fun v i wr => ∃ k : Nat, k ≤ l.length ∧ i = .int .i64 k ∧ v = .int .i64 (Sexp.depthL (l.take k)) ∧ Below w0.heap.size w0 wr) (fun _ i _ => l.length - (intOf i).toNat)
      case atStart => exact ⟨0, Nat.zero_le _, rfl, rfl, Below.refl _ _⟩
      case round =>
        obtain ⟨k, hk, rfl, rfl, hb⟩ := hrel
        have HB := Lib.hid hb
        obtain ⟨d0, d1⟩ := Sexp.depthL_I64 (l.take k)
        have qr := ((bcell hb).1 w.heap.size 2 (by omega)).trans q2
        by_cases hlt : k < l.length
        · have hlt2 : (k : Int) < (l.length : Int) := by omega
          have hy := List.getElem?_eq_getElem hlt
          have hym := List.getElem_mem hlt
          generalize l[k] = y at hy hym
          obtain ⟨b, o, A', c', rfl, hbl, e0, e1, e2, hr⟩ := sexp_cells (HL.out.on SexpR.lasts hb) hy
          have HY := Lib.hid (IH.out y (by have h1 := HM.out y hym; have h2 := HX.out; omega) wr A' c' hr)
          have HT := Lib.hid (show Sexp.depthL (l.take (k + 1)) = max (Sexp.depthL (l.take k)) y.depth by rw [List.take_add_one, hy]; exact Sexp.depthL_snoc _ _)
          obtain ⟨f0, f1⟩ := Sexp.depth_I64 y
          generalize Sexp.depthL (l.take k) = dl at *
          clear hb hr hy hym q2
          go_wp2_with fail
          refine HY.out.mono ?_
          rintro e w2 ⟨rfl, hb2⟩
          have HB2 := Lib.hid (HB.out.trans (hb2.mono HB.out.size))
          clear hb2
          go_wp2_with fail
          go_roundw
          case rel => exact ⟨k + 1, by omega, by go_num, by rw [HT.out, max_if], HB2.out⟩
          case measure => simp [intOf]; omega
        · obtain rfl : k = l.length := by omega
          rw [List.take_length] at d0 d1 ⊢
          clear hb q2
          go_wp2_with fail
          go_ret
          exact ⟨ret_int HE.out.symm, B0.out.trans (HB.out.mono (by omega))⟩
    · replace HE := Lib.hid (HE.out.trans (if_neg hk))
      have hk2 : (x.kind == 3) = false := beq_eq_false_iff_ne.2 hk
      go_enter Tryz.func89, Tryz.ntmps89
      go_wp2_with fail
      go_ret
      exact ⟨ret_int HE.out.symm, (Below.refl w.heap.size w).alloc (Nat.le_refl _) _⟩
end Go.Proofs.YtfcmpfaonpnbaaaGreatDoor.Dt
/- Append onto a row of the call's own, whatever slice is put behind it, in a list and in a region that draws: the new row's block is told. No condition. -/
namespace Go.Proofs.YtfcmpfaonpnbaaaGreatDoor
open Go.RowKit

section
variable {P : Program} {w : World}

theorem run_append_at (base : Nat) (t ty e : TypeId) (i : TypeInfo) (z : Value) (size bytes : Nat) (ht : P.underlying t = some (.slice e)) (hi : P.info? e = some i) (hz : i.zero = some z)
    (hsize : i.size = size) (hby : i.bytes = bytes) (hzs : z.cells.size = size) (hsz : 0 < size) (v : Value) (n : Nat) (xs : List Value) (hown : w.ownsRow base e size v n xs)
    (A : Option Addr) (m c : Nat) (news : List Value) (hl : news.length = m * size) (hA : Cells w A news) (h1 : ∀ u ∈ news, u.oneCell' = true)
    (h63 : n + m ≤ maxLen) (hbytes : (n + m) * bytes ≤ 140737488355328) (hbase : base ≤ w.heap.size) :
    ∃ v' w', (Builtin.append_ #[t, t] ty #[v, .slice A m c]).run P w = .ok v' w' ∧ w'.ownsRow base e size v' (n + m) (xs ++ news) ∧ w.grownBy w' v.ownBlock ∧ (v'.ownBlock = v.ownBlock ∨ v'.ownBlock = some w.heap.size) := by
  have go : ∀ ad : Addr, A = some ad → (∀ j u, news[j]? = some u → w.cell? (ad.add j) = some u) →
      ∃ v' w', (Builtin.append_ #[t, t] ty #[v, .slice A m c]).run P w = .ok v' w' ∧ w'.ownsRow base e size v' (n + m) (xs ++ news) ∧ w.grownBy w' v.ownBlock ∧ (v'.ownBlock = v.ownBlock ∨ v'.ownBlock = some w.heap.size) := by
    intro ad hA hc
    subst hA
    obtain ⟨v', w', hr, ho, hg, _, hat⟩ := run_append_own_at (P := P) w base t ty e i z size bytes ht hi hz hsize hby hzs hsz v n xs hown ad m c news hl hc h1 h63 hbytes hbase
    exact ⟨v', w', hr, ho, hg, hat⟩
  rcases hA with h0 | ⟨b, o, hA, _, hc⟩
  · subst h0
    have hm : m = 0 := by
      rcases Nat.eq_zero_or_pos m with h | h
      · exact h
      · simp at hl; have := Nat.mul_pos h hsz; omega
    subst hm
    cases A with
    | some ad => exact go ad rfl (fun j u hu => by simp at hu)
    | none =>
      refine ⟨v, w, ?_, by simpa using hown, World.grownBy.refl w _, .inl rfl⟩
      rcases hown.2 with ⟨rfl, rfl⟩ | ⟨g, cap, cur, rfl, _, _, hnc, _⟩
      · simp [Builtin.append_, run_underlying ht, sizeOf, typeInfo, hi, Builtin.lenOf, Builtin.firstCells]
      · simp [Builtin.append_, run_underlying ht, sizeOf, typeInfo, hi, Builtin.lenOf, Builtin.firstCells, hnc, storeCells]
  · refine go ⟨b, o, none⟩ hA (fun j u hu => ?_)
    have : ((⟨b, o, none⟩ : Addr).add j) = ⟨b, o + j, none⟩ := by unfold Addr.add; split <;> simp_all
    rw [this]; exact hc j u hu

theorem wp_append_at {o : Oper} {a : Act} {K : Act → World → Prop} {Q : Exit → Act → World → Prop} (s x : Operand) (t : TypeId)
    (ho : o.op = .call { callee := .builtin .append, args := #[s, x], argTypes := #[t, t] })
    (base : Nat) (e : TypeId) (i : TypeInfo) (z : Value) (size bytes : Nat) (ht : P.underlying t = some (.slice e)) (hi : P.info? e = some i) (hz : i.zero = some z)
    (hsize : i.size = size) (hby : i.bytes = bytes) (hzs : z.cells.size = size) (hsz : 0 < size) (v : Value) (n : Nat) (xs : List Value) (hs : a.eval s = v) (hown : w.ownsRow base e size v n xs)
    (A : Option Addr) (m c : Nat) (news : List Value) (hx : a.eval x = .slice A m c) (hl : news.length = m * size) (hA : Cells w A news) (h1 : ∀ u ∈ news, u.oneCell' = true)
    (h63 : n + m ≤ maxLen) (hbytes : (n + m) * bytes ≤ 140737488355328) (hbase : base ≤ w.heap.size)
    (h : ∀ v' w', w'.ownsRow base e size v' (n + m) (xs ++ news) → w.grownBy w' v.ownBlock → (v'.ownBlock = v.ownBlock ∨ v'.ownBlock = some w.heap.size) → K (a.put o.dst v') w') : o.wp P a w K Q := by
  obtain ⟨v', w', hrun, h2, h3, h4⟩ := run_append_at (P := P) (w := w) base t o.type e i z size bytes ht hi hz hsize hby hzs hsz v n xs hown A m c news hl hA h1 h63 hbytes hbase
  unfold Oper.wp execOp
  simp only [ho, resolve, invoke, builtin, Sem.run_bind, Sem.run_pure, Result.andThen_ok, List.map_toArray, List.map_cons, List.map_nil, hs, hx, hrun]
  exact h v' w' h2 h3 h4

theorem wpList_append_at {ops : Array Oper} {rest : List Oper} {o : Oper} {a : Act} {Q : Exit → Act → World → Prop} (hgd : o.guard = none) (s x : Operand) (t : TypeId)
    (ho : o.op = .call { callee := .builtin .append, args := #[s, x], argTypes := #[t, t] })
    (base : Nat) (e : TypeId) (i : TypeInfo) (z : Value) (size bytes : Nat) (ht : P.underlying t = some (.slice e)) (hi : P.info? e = some i) (hz : i.zero = some z)
    (hsize : i.size = size) (hby : i.bytes = bytes) (hzs : z.cells.size = size) (hsz : 0 < size) (v : Value) (n : Nat) (xs : List Value) (hs : a.eval s = v) (hown : w.ownsRow base e size v n xs)
    (A : Option Addr) (m c : Nat) (news : List Value) (hx : a.eval x = .slice A m c) (hl : news.length = m * size) (hA : Cells w A news) (h1 : ∀ u ∈ news, u.oneCell' = true)
    (h63 : n + m ≤ maxLen) (hbytes : (n + m) * bytes ≤ 140737488355328) (hbase : base ≤ w.heap.size)
    (h : ∀ v' w', w'.ownsRow base e size v' (n + m) (xs ++ news) → w.grownBy w' v.ownBlock → (v'.ownBlock = v.ownBlock ∨ v'.ownBlock = some w.heap.size) → wpList P ops Q rest (a.put o.dst v') w') : wpList P ops Q (o :: rest) a w :=
  wpList_plain hgd fun _ hK => wp_append_at s x t ho base e i z size bytes ht hi hz hsize hby hzs hsz v n xs hs hown A m c news hx hl hA h1 h63 hbytes hbase fun v' w' h2 h3 h4 => hK _ _ (h v' w' h2 h3 h4)

theorem step_append_at {ops : Array Oper} {o : Oper} {a : Act} {K : Act → World → Prop} {Q : Exit → Act → World → Prop} {E : Prop} (hgd : o.guard = none) (s x : Operand) (t : TypeId)
    (ho : o.op = .call { callee := .builtin .append, args := #[s, x], argTypes := #[t, t] })
    (base : Nat) (e : TypeId) (i : TypeInfo) (z : Value) (size bytes : Nat) (ht : P.underlying t = some (.slice e)) (hi : P.info? e = some i) (hz : i.zero = some z)
    (hsize : i.size = size) (hby : i.bytes = bytes) (hzs : z.cells.size = size) (hsz : 0 < size) (v : Value) (n : Nat) (xs : List Value) (hs : a.eval s = v) (hown : w.ownsRow base e size v n xs)
    (A : Option Addr) (m c : Nat) (news : List Value) (hx : a.eval x = .slice A m c) (hl : news.length = m * size) (hA : Cells w A news) (h1 : ∀ u ∈ news, u.oneCell' = true)
    (h63 : n + m ≤ maxLen) (hbytes : (n + m) * bytes ≤ 140737488355328) (hbase : base ≤ w.heap.size)
    (h : ∀ v' w', w'.ownsRow base e size v' (n + m) (xs ++ news) → w.grownBy w' v.ownBlock → (v'.ownBlock = v.ownBlock ∨ v'.ownBlock = some w.heap.size) → K (a.put o.dst v') w') :
    if Region.wanted o (yielded ops a.tmps) = true then Oper.wp P o a w K Q else E := by
  have hw : Region.wanted o (yielded ops a.tmps) = true := by simp [Region.wanted, hgd]
  rw [if_pos hw]
  exact wp_append_at s x t ho base e i z size bytes ht hi hz hsize hby hzs hsz v n xs hs hown A m c news hx hl hA h1 h63 hbytes hbase h
end
/-- an empty slice literal -/
theorem owns_empty (w : World) (e : TypeId) (size : Nat) : (w.alloc (.cells #[] e)).ownsRow w.heap.size e size (.slice (some ⟨w.heap.size, 0, none⟩) 0 0) 0 [] :=
  ⟨by simp, .inr ⟨w.heap.size, 0, #[], rfl, Nat.le_refl _, by show (w.heap.push _)[w.heap.size]? = _; exact Array.getElem?_push_size, Nat.le_refl _, Nat.zero_le _, by simp, by simp⟩⟩
end Go.Proofs.YtfcmpfaonpnbaaaGreatDoor
/- A row of the call's own, grown element by element out of old memory, as a list. No condition. -/
namespace Go.Proofs.YtfcmpfaonpnbaaaGreatDoor
open Go.RowKit

/-- xs's cells, told of the old world w0, stand in a row of one's own -/
structure Grows {α : Type} (n : Nat) (R : World → List Value → α → Prop) (t : TypeId) (w0 : World) (base : Nat) (w : World) (v : Value) (xs : List α) : Prop where
  row : ∃ vals, w.ownsRow base t n v xs.length vals ∧ ∀ i x, xs[i]? = some x → ∃ vs : List Value, vs.length = n ∧ R w0 vs x ∧ ∀ j u, vs[j]? = some u → vals[i * n + j]? = some u
section
variable {α : Type} {n : Nat} {R : World → List Value → α → Prop} {t : TypeId} {w0 w w' : World} {base : Nat} {v : Value} {xs : List α}
theorem Grows.nil (w : World) : Grows n R t w0 base w (.slice none 0 0) ([] : List α) := ⟨[], ⟨by simp, .inl ⟨rfl, rfl⟩⟩, fun i x hx => by simp at hx⟩
theorem Grows.shape (h : Grows n R t w0 base w v xs) : ∃ A c, v = .slice A xs.length c ∧ xs.length ≤ c ∧ c ≤ maxLen := by
  obtain ⟨vals, ho, _⟩ := h.row
  rcases ho.2 with ⟨h1, h2⟩ | ⟨g, cap, cur, h1, _, _, h2, h3, _⟩
  · exact ⟨none, 0, by rw [h2]; exact h1, by omega, by unfold maxLen; omega⟩
  · exact ⟨_, cap, h1, h2, h3⟩
theorem Grows.lt (h : Grows n R t w0 base w v xs) : ∀ k, v.ownBlock = some k → base ≤ k ∧ k < w.heap.size := by
  obtain ⟨vals, ho, _⟩ := h.row
  exact ho.lt
theorem Grows.lies {A : Option Addr} {c : Nat} (hR : Lasts R) (hb : Below w0.heap.size w0 w) (h : Grows n R t w0 base w (.slice A xs.length c) xs) : Lies n R w A xs := by
  obtain ⟨vals, ho, hr⟩ := h.row
  rcases ho.2 with ⟨h1, h2⟩ | ⟨g, cap, cur, h1, hg, hat, h2, h3, h4, h5⟩
  · exact .inl (List.length_eq_zero_iff.1 h2)
  · simp only [Value.slice.injEq] at h1
    refine .inr ⟨g, 0, h1.1, (Array.getElem?_eq_some_iff.1 hat).1, fun i x hx => ?_⟩
    obtain ⟨vs, e1, e2, e3⟩ := hr i x hx
    refine ⟨vs, e1, fun j u hu => ?_, hR _ _ _ _ hb e2⟩
    rw [Nat.zero_add, cell_of_row w g (i * n + j) cur t (0, 0) hat]
    have := e3 j u hu
    rw [← h5, List.getElem?_take] at this
    split at this
    · simpa using this
    · cases this
theorem Grows.kept {row : Option Nat} (h : Grows n R t w0 base w v xs) (hg : w.grownBy w' row) (hne : v.ownBlock = none ∨ v.ownBlock ≠ row) : Grows n R t w0 base w' v xs := by
  obtain ⟨vals, ho, hr⟩ := h.row
  exact ⟨vals, ho.kept hg hne, hr⟩
theorem grown_of_below (hb : Below w.heap.size w w') : w.grownBy w' none := ⟨hb.os, hb.tape, hb.output, hb.size, fun k hk _ => hb.block k hk⟩
theorem Grows.below (h : Grows n R t w0 base w v xs) (hb : Below w.heap.size w w') : Grows n R t w0 base w' v xs :=
  h.kept (grown_of_below hb) (by cases v.ownBlock <;> simp)
theorem Grows.alloc (h : Grows n R t w0 base w v xs) (o : Obj) : Grows n R t w0 base (w.alloc o) v xs := h.kept (World.grownBy_alloc w o none) (by cases v.ownBlock <;> simp)
theorem Grows.setCell (h : Grows n R t w0 base w v xs) {p : Addr} (u : Value) (hp : p.block < base) : Grows n R t w0 base (w.setCell p u) v xs := by
  obtain ⟨vals, ho, hr⟩ := h.row
  refine ⟨vals, ⟨ho.1, ?_⟩, hr⟩
  rcases ho.2 with h1 | ⟨g, cap, cur, h1, h2, h3, h4⟩
  · exact .inl h1
  · exact .inr ⟨g, cap, cur, h1, h2, (Below.heap_setCell w p u g (by omega)).trans h3, h4⟩
theorem Grows.push {v' : Value} {vals vs : List Value} {x : α} (hl : vals.length = xs.length * n) (hr : ∀ i x, xs[i]? = some x → ∃ vs : List Value, vs.length = n ∧ R w0 vs x ∧ ∀ j u, vs[j]? = some u → vals[i * n + j]? = some u)
    (ho : w'.ownsRow base t n v' (xs.length + 1) (vals ++ vs)) (hx : R w0 vs x) (hvs : vs.length = n) : Grows n R t w0 base w' v' (xs ++ [x]) := by
  refine ⟨vals ++ vs, by rw [List.length_append]; exact ho, fun i y hy => ?_⟩
  by_cases hi : i < xs.length
  · rw [List.getElem?_append_left hi] at hy
    obtain ⟨us, e1, e2, e3⟩ := hr i y hy
    refine ⟨us, e1, e2, fun j u hu => ?_⟩
    have := e3 j u hu
    rw [List.getElem?_append_left (List.getElem?_eq_some_iff.1 this).1]; exact this
  · have hi' : i = xs.length := by
      have := (List.getElem?_eq_some_iff.1 hy).1
      simp at this; omega
    subst hi'
    simp at hy
    subst hy
    refine ⟨vs, hvs, hx, fun j u hu => ?_⟩
    rw [List.getElem?_append_right (by rw [hl]; omega), hl, show xs.length * n + j - xs.length * n = j by omega]; exact hu
end
end Go.Proofs.YtfcmpfaonpnbaaaGreatDoor
/- The document's lex: bytes, names. -/
namespace Go.Proofs.YtfcmpfaonpnbaaaGreatDoor.Lx
open Go.RowKit

set_option maxHeartbeats 800000 in
theorem rwhite_any (c : Int) (w : World) :
    Calls Tryz.prog 95 #[.int .u8 c] w fun e w' => e = .returned (.bool (whiteI c)) ∧ w = w' := by
  go_enter Tryz.func95, Tryz.ntmps95
  go_wp2_with fail
  all_goals
    go_ret
    exact ⟨ret_bool (by rw [Bool.eq_iff_iff]; simp [whiteI]; try omega), rfl⟩
set_option maxHeartbeats 800000 in
theorem rinside_any (c : Int) (w : World) :
    Calls Tryz.prog 82 #[.int .u8 c] w fun e w' => e = .returned (.bool (insideI c)) ∧ w = w' := by
  have HW := Lib.hid (rwhite_any c w)
  have HQ := Lib.hid (show whiteI c = decide (c = 32 ∨ c = 9 ∨ c = 10 ∨ c = 13) from rfl)
  generalize whiteI c = b at *
  go_enter Tryz.func82, Tryz.ntmps82
  go_wp2_with (go_at_call 95; refine HW.out.mono ?_; rintro e w' ⟨rfl, rfl⟩)
  all_goals
    go_ret
    have hq := HQ.out
    exact ⟨ret_bool (by rw [Bool.eq_iff_iff]; simp [insideI, hq]; try omega), rfl⟩
set_option maxHeartbeats 1600000 in
theorem rreserved_any (s : ByteArray) (w : World) :
    Calls Tryz.prog 51 #[.string s] w fun e w' => e = .returned (.bool (resB (bs s))) ∧ w = w' := by
  go_enter Tryz.func51, Tryz.ntmps51
  go_wp2_with fail
  all_goals
    go_ret
    exact ⟨ret_bool (by rw [← bs_toList]; simp_all [resB, resL]), rfl⟩

def someL : List UInt8 := [126, 33, 64, 36, 37, 94, 38, 42, 95, 45, 43, 61, 60, 62, 46, 63, 47]
def someS : ByteArray := { data := #[126, 33, 64, 36, 37, 94, 38, 42, 95, 45, 43, 61, 60, 62, 46, 63, 47] }
theorem some_sign (c : Int) (h : ((65 ≤ c ∧ c ≤ 90) ∨ (97 ≤ c ∧ c ≤ 122) ∨ (48 ≤ c ∧ c ≤ 57)) = False) : signI c = (bs someS).any fun x => (x.toNat : Int) == c := by
  have e : (bs someS).any (fun x => (x.toNat : Int) == c) = someL.any (fun x => (x.toNat : Int) == c) := rfl
  rw [e, Bool.eq_iff_iff]
  simp [signI, someL]
  simp at h
  omega
set_option maxHeartbeats 1600000 in
theorem rsign_any (c : Int) (w : World) (h0 : 0 ≤ c) (h1 : c ≤ 255) :
    Calls Tryz.prog 83 #[.int .u8 c] w fun e w' => e = .returned (.bool (signI c)) ∧ w = w' := by
  by_cases h : (65 ≤ c ∧ c ≤ 90) ∨ (97 ≤ c ∧ c ≤ 122) ∨ (48 ≤ c ∧ c ≤ 57)
  · have HS := Lib.hid (show signI c = true from by simp [signI]; omega)
    by_cases a1 : 65 ≤ c <;> by_cases a2 : c ≤ 90 <;> by_cases a3 : 97 ≤ c <;> by_cases a4 : c ≤ 122 <;> by_cases a5 : 48 ≤ c <;> by_cases a6 : c ≤ 57
    all_goals first | (exfalso; omega) | skip
    all_goals
      try replace a1 := decide_eq_false a1
      try replace a2 := decide_eq_false a2
      try replace a3 := decide_eq_false a3
      try replace a4 := decide_eq_false a4
      try replace a5 := decide_eq_false a5
      try replace a6 := decide_eq_false a6
      clear h
      go_enter Tryz.func83, Tryz.ntmps83
      go_wp2_with fail
      go_ret
      exact ⟨ret_bool HS.out.symm, rfl⟩
  · have HS := Lib.hid (some_sign c (eq_false h))
    by_cases a1 : 65 ≤ c <;> by_cases a2 : c ≤ 90 <;> by_cases a3 : 97 ≤ c <;> by_cases a4 : c ≤ 122 <;> by_cases a5 : 48 ≤ c <;> by_cases a6 : c ≤ 57
    all_goals first | (exfalso; omega) | skip
    all_goals
      try replace a1 := decide_eq_false a1
      try replace a2 := decide_eq_false a2
      try replace a3 := decide_eq_false a3
      try replace a4 := decide_eq_false a4
      try replace a5 := decide_eq_false a5
      try replace a6 := decide_eq_false a6
      clear h
      go_enter Tryz.func83, Tryz.ntmps83
      go_wp2_with fail
    all_goals
      go_loop [3] (fun v => ∃ k : Nat, k ≤ 17 ∧ v = .int .i64 k ∧ (someL.take k).any (fun x => (x.toNat : Int) == c) = false) (fun v => 17 - (intOf v).toNat)
      case atStart => exact ⟨0, Nat.zero_le _, rfl, rfl⟩
      case round =>
        obtain ⟨k, hk, rfl, hn⟩ := hrel
        have HN := Lib.hid hn
        clear hn
        by_cases hlt : k < 17
        · have hlt2 : (k : Int) < 17 := by omega
          have HK := Lib.hid (show ∀ b, (((someS[k]'(by show k < 17; omega)).toNat : Int) == c) = b → ∃ x, someL[k]? = some x ∧ ((x.toNat : Int) == c) = b from fun b hb => ⟨someS[k]'(by show k < 17; omega), bs_at (s := someS) (by show k < 17; omega), hb⟩)
          go_wp2_with fail
          · obtain ⟨x, hx, hc⟩ := HK.out true (by assumption)
            go_ret
            exact ⟨ret_bool (by rw [HS.out, eq_comm, List.any_eq_true]; exact ⟨x, List.mem_of_getElem? hx, hc⟩), rfl⟩
          · obtain ⟨x, hx, hc⟩ := HK.out false (by assumption)
            refine ⟨⟨k + 1, by omega, by go_num, ?_⟩, by simp [intOf]; omega⟩
            rw [List.take_add_one, hx, List.any_append, HN.out]
            simpa using hc
        · obtain rfl : k = 17 := by omega
          go_wp2_with fail
          go_ret
          exact ⟨ret_bool (by rw [HS.out]; exact HN.out.symm), rfl⟩

set_option maxHeartbeats 1600000 in
theorem rmay_any (s : ByteArray) (w : World) (hs : (s.size : Int) ≤ 9223372036854775807) :
    Calls Tryz.prog 68 #[.string s] w fun e w' => e = .returned (.bool (mayB (bs s))) ∧ w = w' := by
  have HM := Lib.hid (show mayB (bs s) = (decide (s.size ≤ 100) && (bs s).all fun c => insideI c.toNat) by unfold mayB; rw [bs_length])
  by_cases h1 : s.size ≤ 100
  · have h : ¬ (100 : Int) < (s.size : Int) := by omega
    go_enter Tryz.func68, Tryz.ntmps68
    go_wp2_with fail
    go_loop [3] (fun v => ∃ k : Nat, k ≤ s.size ∧ v = .int .i64 k ∧ ((bs s).take k).all (fun c => insideI c.toNat) = true) (fun v => s.size - (intOf v).toNat)
    case atStart => exact ⟨0, Nat.zero_le _, rfl, rfl⟩
    case round =>
      obtain ⟨k, hk, rfl, hall⟩ := hrel
      have HA := Lib.hid hall
      clear hall
      by_cases hlt : k < s.size
      · have hlt2 : (k : Int) < (s.size : Int) := by omega
        have HC := Lib.hid (rinside_any (s[k].toNat : Int) w)
        have HT := Lib.hid (bs_next hlt)
        have HMm := Lib.hid (bs_mem hlt)
        cases hb : insideI (s[k].toNat : Int) with
        | true =>
          have HB := Lib.hid hb
          rw [hb] at HC
          clear hb
          go_wp2_with fail
          refine HC.out.mono ?_
          rintro e w' ⟨rfl, rfl⟩
          go_wp2_with fail
          go_round
          case rel => exact ⟨k + 1, by omega, by go_num, by rw [HT.out, List.all_append, HA.out]; simp [HB.out]⟩
          case measure => simp [intOf]; omega
        | false =>
          have HB := Lib.hid (show mayB (bs s) = false from by rw [HM.out, Bool.and_eq_false_iff]; right; rw [Bool.eq_false_iff]; intro h; rw [List.all_eq_true] at h; have := h _ HMm.out; rw [hb] at this; cases this)
          rw [hb] at HC
          clear hb
          go_wp2_with fail
          refine HC.out.mono ?_
          rintro e w' ⟨rfl, rfl⟩
          go_wp2_with fail
          go_ret
          exact ⟨ret_bool HB.out.symm, rfl⟩
      · obtain rfl : k = s.size := by omega
        have HB := Lib.hid (show mayB (bs s) = true from by have h := HA.out; rw [List.take_of_length_le (by rw [bs_length]; omega)] at h; rw [HM.out, h]; simp [h1])
        go_wp2_with fail
        go_ret
        exact ⟨ret_bool HB.out.symm, rfl⟩
  · have h : (100 : Int) < (s.size : Int) := by omega
    go_enter Tryz.func68, Tryz.ntmps68
    go_wp2_with fail
    go_ret
    exact ⟨ret_bool (by rw [HM.out]; simp [h1]), rfl⟩
end Go.Proofs.YtfcmpfaonpnbaaaGreatDoor.Lx
