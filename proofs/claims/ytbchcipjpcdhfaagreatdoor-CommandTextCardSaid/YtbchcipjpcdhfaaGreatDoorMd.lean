import Derived.Test.YtbchcipjpcdhfaaGreatDoorMb
import Derived.Test.YtbchcipjpcdhfaaGreatDoorMc
import Derived.Deep.RegionHeld3
/- merged by wip/merge.py from: SexpOpen CmdOpen Equal CmdSame CmdSeq -/
/- Arguments that are expressions, signatures, worlds: whoever is read so reads as such. No condition. -/
namespace Go.Proofs.YtbchcipjpcdhfaaGreatDoor.Dt
open Go.RowKit Go.ChangeShapes Go.WideShapes Go.Deep

theorem cI : Tryz.prog.cellsOf 3 = 1 := by kernel_rfl
theorem cI8 : Tryz.prog.cellsOf 22 = 1 := by kernel_rfl
theorem cS : Tryz.prog.cellsOf 9 = 1 := by kernel_rfl
theorem cSx : Tryz.prog.cellsOf 25 = 3 := by kernel_rfl
theorem cLSx : Tryz.prog.cellsOf 23 = 1 := by kernel_rfl
theorem bSx : Tryz.prog.bytesOf 25 = 48 := by kernel_rfl
theorem fSx : ∃ f0 f1 f2 : Field, Tryz.prog.underlying 25 = some (.struct #[f0, f1, f2]) ∧ f0.offset = 0 ∧ f1.offset = 1 ∧ f2.offset = 2 ∧ f0.type = 22 ∧ f1.type = 9 ∧ f2.type = 23 :=
  ⟨_, _, _, Tryz.underlying25, rfl, rfl, rfl, rfl, rfl, rfl⟩
theorem list3 {α : Type} {l : List α} (h : l.length = 3) : ∃ a b c, l = [a, b, c] := by
  match l, h with
  | [a, b, c], _ => exact ⟨a, b, c, rfl⟩
theorem list2 {α : Type} {l : List α} (h : l.length = 2) : ∃ a b, l = [a, b] := by
  match l, h with
  | [a, b], _ => exact ⟨a, b, rfl⟩
theorem list4 {α : Type} {l : List α} (h : l.length = 4) : ∃ a b c d, l = [a, b, c, d] := by
  match l, h with
  | [a, b, c, d], _ => exact ⟨a, b, c, d, rfl⟩
theorem list6 {α : Type} {l : List α} (h : l.length = 6) : ∃ a b c d e f, l = [a, b, c, d, e, f] := by
  match l, h with
  | [a, b, c, d, e, f], _ => exact ⟨a, b, c, d, e, f, rfl⟩

section
variable {H : Type} {enc : TypeId × Value → H}
theorem opens_sexp (fuel : Nat) : Opens H enc Tryz.prog 25 SexpR fuel := by
  induction fuel using Nat.strongRecOn with
  | _ fuel ih =>
    intro W cs y h hf
    obtain ⟨f0, f1, f2, hu, o0, o1, o2, t0, t1, t2⟩ := fSx
    have hlen := struct_len hu h
    rw [cSx] at hlen
    obtain ⟨a, b, c, rfl⟩ := list3 hlen
    obtain ⟨k, hk⟩ := field_of hu h hf 0 f0 rfl (fun fu _ => by rw [t0]; exact opens_int Tryz.underlying22 fu)
    rw [o0, t0, cI8] at hk
    obtain ⟨hk1, hk2⟩ := hk
    obtain ⟨t, ht⟩ := field_of hu h hf 1 f1 rfl (fun fu _ => by rw [t1]; exact opens_str Tryz.underlying9 fu)
    rw [o1, t1, cS] at ht
    obtain ⟨ht1, ht2⟩ := ht
    obtain ⟨l, hl⟩ := field_of hu h hf 2 f2 rfl (fun fu hfu => by rw [t2]; exact opens_slice Tryz.underlying23 cSx bSx (by omega) (fun fu' hfu' => ih fu' (by omega)))
    rw [o2, t2, cLSx] at hl
    obtain ⟨A, cap, hl1, hl2, hl3, hl4, hl5⟩ := hl
    simp at hk1 ht1 hl1
    subst hk1 ht1 hl1
    exact ⟨.mk k t l, SexpR.make hl2 hl3 hl4 ht2 hl5 hk2⟩
end
end Go.Proofs.YtbchcipjpcdhfaaGreatDoor.Dt
/- Commands: how they lie in memory; arguments that are expressions or commands, opened. No condition. -/
namespace Go.Proofs.YtbchcipjpcdhfaaGreatDoor.Dt
open Go.RowKit Go.ChangeShapes Go.WideShapes Go.Deep

/-- two strings in a row -/
def PairR (_ : World) (vs : List Value) (p : ByteArray × ByteArray) : Prop := vs = [.string p.1, .string p.2] ∧ (p.1.size : Int) ≤ 140737488351232 ∧ (p.2.size : Int) ≤ 140737488351232
theorem PairR.lasts : Lasts PairR := fun _ _ _ _ _ h => h
structure CmdAt (w : World) (A1 : Option Addr) (c1 : Nat) (A2 : Option Addr) (c2 : Nat) (A3 : Option Addr) (c3 : Nat) (A4 : Option Addr) (c4 : Nat) (c : Cmd) : Prop where
  l : Lies 1 (IntR .i64) w A1 c.l
  args : Lies 1 StrR w A2 c.args
  params : Lies 2 PairR w A3 c.params
  terms : Lies 3 SexpR w A4 c.terms
  l1 : c.l.length ≤ c1
  l2 : c.args.length ≤ c2
  l3 : c.params.length ≤ c3
  l4 : c.terms.length ≤ c4
  m1 : c1 ≤ maxLen
  m2 : c2 ≤ maxLen
  m3 : c3 ≤ maxLen
  m4 : c4 ≤ maxLen
  b4 : c.terms.length * 48 ≤ 140737488351232
  kind : (Lit.int .i8 c.kind).wf = true
  n : I64 c.n
  name : (c.name.size : Int) ≤ 140737488351232
  res : (c.res.size : Int) ≤ 140737488351232
theorem CmdAt.on {w w' : World} {A1 A2 A3 A4 : Option Addr} {c1 c2 c3 c4 : Nat} {c : Cmd} (h : CmdAt w A1 c1 A2 c2 A3 c3 A4 c4 c) (hb : Below w.heap.size w w') : CmdAt w' A1 c1 A2 c2 A3 c3 A4 c4 c :=
  { h with l := h.l.on (IntR.lasts _) hb, args := h.args.on StrR.lasts hb, params := h.params.on PairR.lasts hb, terms := h.terms.on SexpR.lasts hb }
/-- a command's eight cells -/
def cmdCells (A1 : Option Addr) (c1 : Nat) (A2 : Option Addr) (c2 : Nat) (A3 : Option Addr) (c3 : Nat) (A4 : Option Addr) (c4 : Nat) (c : Cmd) : List Value :=
  [.int .i8 c.kind, .string c.name, .int .i64 c.n, .slice A1 c.l.length c1, .slice A2 c.args.length c2, .slice A3 c.params.length c3, .string c.res, .slice A4 c.terms.length c4]
def CmdR (w : World) (vs : List Value) (c : Cmd) : Prop := ∃ A1 c1 A2 c2 A3 c3 A4 c4, vs = cmdCells A1 c1 A2 c2 A3 c3 A4 c4 c ∧ CmdAt w A1 c1 A2 c2 A3 c3 A4 c4 c
theorem CmdR.lasts : Lasts CmdR := fun _ _ _ _ hb ⟨A1, c1, A2, c2, A3, c3, A4, c4, h1, h2⟩ => ⟨A1, c1, A2, c2, A3, c3, A4, c4, h1, h2.on hb⟩
theorem list8 {α : Type} {l : List α} (h : l.length = 8) : ∃ a b c d e f g i, l = [a, b, c, d, e, f, g, i] := by
  match l, h with
  | [a, b, c, d, e, f, g, i], _ => exact ⟨a, b, c, d, e, f, g, i, rfl⟩
section
variable {H : Type} {enc : TypeId × Value → H}
theorem cA2S : Tryz.prog.cellsOf 56 = 2 := by kernel_rfl
theorem bA2S : Tryz.prog.bytesOf 56 = 32 := by kernel_rfl
theorem cCmd : Tryz.prog.cellsOf 32 = 8 := by kernel_rfl
theorem cCLI : Tryz.prog.cellsOf 28 = 1 := by kernel_rfl
theorem cCLS : Tryz.prog.cellsOf 29 = 1 := by kernel_rfl
theorem cCLP : Tryz.prog.cellsOf 30 = 1 := by kernel_rfl
theorem bCI : Tryz.prog.bytesOf 3 = 8 := by kernel_rfl
theorem bCS : Tryz.prog.bytesOf 9 = 16 := by kernel_rfl
theorem fCmd : ∃ f0 f1 f2 f3 f4 f5 f6 f7 : Field, Tryz.prog.underlying 32 = some (.struct #[f0, f1, f2, f3, f4, f5, f6, f7]) ∧ f0.offset = 0 ∧ f1.offset = 1 ∧ f2.offset = 2 ∧ f3.offset = 3 ∧ f4.offset = 4 ∧ f5.offset = 5 ∧ f6.offset = 6 ∧ f7.offset = 7 ∧ f0.type = 22 ∧ f1.type = 9 ∧ f2.type = 3 ∧ f3.type = 28 ∧ f4.type = 29 ∧ f5.type = 30 ∧ f6.type = 9 ∧ f7.type = 23 :=
  ⟨_, _, _, _, _, _, _, _, Tryz.underlying32, rfl, rfl, rfl, rfl, rfl, rfl, rfl, rfl, rfl, rfl, rfl, rfl, rfl, rfl, rfl, rfl⟩
theorem opens_pair (fuel : Nat) : Opens H enc Tryz.prog 56 PairR fuel := by
  intro W cs y h hf
  have hlen := (DataW.trod_array Tryz.underlying56 h).choose_spec.choose_spec.2.2.1
  rw [cA2S] at hlen
  obtain ⟨a, b, rfl⟩ := list2 hlen
  obtain ⟨x, hx⟩ := array_of Tryz.underlying56 h hf 1 cS 0 (by omega) (fun fu _ => opens_str Tryz.underlying9 fu)
  obtain ⟨y, hy⟩ := array_of Tryz.underlying56 h hf 1 cS 1 (by omega) (fun fu _ => opens_str Tryz.underlying9 fu)
  obtain ⟨hx1, hx2⟩ := hx
  obtain ⟨hy1, hy2⟩ := hy
  simp at hx1 hy1
  subst hx1 hy1
  exact ⟨⟨x, y⟩, rfl, hx2, hy2⟩
theorem opens_cmd (fuel : Nat) : Opens H enc Tryz.prog 32 CmdR fuel := by
  intro W cs y h hf
  obtain ⟨f0, f1, f2, f3, f4, f5, f6, f7, hu, o0, o1, o2, o3, o4, o5, o6, o7, t0, t1, t2, t3, t4, t5, t6, t7⟩ := fCmd
  have hlen := struct_len hu h
  rw [cCmd] at hlen
  obtain ⟨a, b, c, d, e, f, g, i, rfl⟩ := list8 hlen
  obtain ⟨k, hk⟩ := field_of hu h hf 0 f0 rfl (fun fu _ => by rw [t0]; exact opens_int Tryz.underlying22 fu)
  rw [o0, t0, cI8] at hk
  obtain ⟨s, hs⟩ := field_of hu h hf 1 f1 rfl (fun fu _ => by rw [t1]; exact opens_str Tryz.underlying9 fu)
  rw [o1, t1, cS] at hs
  obtain ⟨n, hn⟩ := field_of hu h hf 2 f2 rfl (fun fu _ => by rw [t2]; exact opens_int Tryz.underlying3 fu)
  rw [o2, t2, cI] at hn
  obtain ⟨l, hl⟩ := field_of hu h hf 3 f3 rfl (fun fu hfu => by rw [t3]; exact opens_slice Tryz.underlying28 cI bCI (by omega) (fun fu' _ => opens_int Tryz.underlying3 fu'))
  rw [o3, t3, cCLI] at hl
  obtain ⟨ags, has⟩ := field_of hu h hf 4 f4 rfl (fun fu hfu => by rw [t4]; exact opens_slice Tryz.underlying29 cS bCS (by omega) (fun fu' _ => opens_str Tryz.underlying9 fu'))
  rw [o4, t4, cCLS] at has
  obtain ⟨ps, hps⟩ := field_of hu h hf 5 f5 rfl (fun fu hfu => by rw [t5]; exact opens_slice Tryz.underlying30 cA2S bA2S (by omega) (fun fu' _ => opens_pair fu'))
  rw [o5, t5, cCLP] at hps
  obtain ⟨r, hr⟩ := field_of hu h hf 6 f6 rfl (fun fu _ => by rw [t6]; exact opens_str Tryz.underlying9 fu)
  rw [o6, t6, cS] at hr
  obtain ⟨ts, hts⟩ := field_of hu h hf 7 f7 rfl (fun fu hfu => by rw [t7]; exact opens_slice Tryz.underlying23 cSx bSx (by omega) (fun fu' _ => opens_sexp fu'))
  rw [o7, t7, cLSx] at hts
  obtain ⟨hk1, hk2⟩ := hk
  obtain ⟨hs1, hs2⟩ := hs
  obtain ⟨hn1, hn2⟩ := hn.i64
  obtain ⟨A1, c1, a1, a2, a3, a4, a5⟩ := hl
  obtain ⟨A2, c2, b1, b2, b3, b4, b5⟩ := has
  obtain ⟨A3, c3, d1, d2, d3, d4, d5⟩ := hps
  obtain ⟨hr1, hr2⟩ := hr
  obtain ⟨A4, c4, e1, e2, e3, e4, e5⟩ := hts
  simp at hk1 hs1 hn1 a1 b1 d1 hr1 e1
  subst hk1 hs1 hn1 a1 b1 d1 hr1 e1
  exact ⟨⟨k, s, n, l, ags, ps, r, ts⟩, A1, c1, A2, c2, A3, c3, A4, c4, rfl, ⟨a2, b2, d2, e2, a3, b3, d3, e3, a4, b4, d4, e4, e5, hk2, hn2, hs2, hr2⟩⟩
set_option maxRecDepth 100000 in
theorem open_cmd {W : World} {base : Nat} {v : Value} {d : DataW H} {ps : List MemPlace} (hval : Value.okWide Tryz.prog W .any base 32 v) (h : DataW.Trod enc Tryz.prog W 0 (fun _ => true) true 32 v d ps) (hf : Fits Tryz.prog 32 d) :
    ∃ c A1 c1 A2 c2 A3 c3 A4 c4, v = .agg #[.int .i8 c.kind, .string c.name, .int .i64 c.n, .slice A1 c.l.length c1, .slice A2 c.args.length c2, .slice A3 c.params.length c3, .string c.res, .slice A4 c.terms.length c4] ∧ CmdAt W A1 c1 A2 c2 A3 c3 A4 c4 c := by
  obtain ⟨f0, f1, f2, f3, f4, f5, f6, f7, hu, _⟩ := fCmd
  obtain ⟨cs, rfl, hsz⟩ := okWide_struct hu hval
  obtain ⟨fuel, ht⟩ := h
  obtain ⟨c, A1, c1, A2, c2, A3, c3, A4, c4, e, hg⟩ := opens_cmd fuel W _ _ ht hf
  refine ⟨c, A1, c1, A2, c2, A3, c3, A4, c4, ?_, hg⟩
  have e2 : cs.toList = _ := e
  congr 1
  exact Array.toList_inj.1 e2
set_option maxRecDepth 100000 in
theorem open_sexp {W : World} {base : Nat} {v : Value} {d : DataW H} {ps : List MemPlace} (hval : Value.okWide Tryz.prog W .any base 25 v) (h : DataW.Trod enc Tryz.prog W 0 (fun _ => true) true 25 v d ps) (hf : Fits Tryz.prog 25 d) :
    ∃ x A c, v = .agg #[.int .i8 x.kind, .string x.text, .slice A x.l.length c] ∧ SexpR W [.int .i8 x.kind, .string x.text, .slice A x.l.length c] x := by
  obtain ⟨f0, f1, f2, hu, _⟩ := fSx
  obtain ⟨cs, rfl, hsz⟩ := okWide_struct hu hval
  obtain ⟨fuel, ht⟩ := h
  obtain ⟨x, hx⟩ := opens_sexp fuel W _ _ ht hf
  have hx' := hx
  obtain ⟨A, c, e, _⟩ := hx'.open'
  rw [e] at hx
  refine ⟨x, A, c, ?_, hx⟩
  have e2 : cs.toList = _ := e
  congr 1
  exact Array.toList_inj.1 e2
end
end Go.Proofs.YtbchcipjpcdhfaaGreatDoor.Dt
/- Lists that are the same, element by element. No condition. -/
namespace Go.Proofs.YtbchcipjpcdhfaaGreatDoor
open Go.RowKit

/-- whether two are the same -/
noncomputable def eqB {α : Type} (a b : α) : Bool := @decide (a = b) (Classical.propDecidable _)
theorem eqB_true {α : Type} {a b : α} : eqB a b = true ↔ a = b := @decide_eq_true_iff (a = b) (Classical.propDecidable _)
theorem eqB_false {α : Type} {a b : α} : eqB a b = false ↔ a ≠ b := @decide_eq_false_iff_not (a = b) (Classical.propDecidable _)
theorem eqB_self {α : Type} (a : α) : eqB a a = true := eqB_true.2 rfl
section
variable {α : Type} {xs ys : List α} {k : Nat} {d : α}
theorem eqB_len (h : ¬ xs.length = ys.length) : eqB xs ys = false := eqB_false.2 fun e => h (by rw [e])
theorem eqB_full (h : xs.length = ys.length) (ht : xs.take xs.length = ys.take xs.length) : eqB xs ys = true :=
  eqB_true.2 (by rw [List.take_length, h, List.take_length] at ht; exact ht)
theorem eqB_step (hx : k < xs.length) (hy : k < ys.length) : (xs.getD k d = ys.getD k d → xs.take k = ys.take k → xs.take (k + 1) = ys.take (k + 1)) ∧ (xs.getD k d ≠ ys.getD k d → eqB xs ys = false) := by
  constructor
  · intro h1 h2
    rw [List.take_succ_eq_append_getElem hx, List.take_succ_eq_append_getElem hy, h2]
    rw [List.getD_eq_getElem?_getD, List.getD_eq_getElem?_getD, List.getElem?_eq_getElem hx, List.getElem?_eq_getElem hy] at h1
    congr 2
  · intro h
    exact eqB_false.2 fun e => h (by rw [e])
/-- the same, of elements that are there -/
theorem eqB_next {x y : α} (hx : xs[k]? = some x) (hy : ys[k]? = some y) : (x = y → xs.take k = ys.take k → xs.take (k + 1) = ys.take (k + 1)) ∧ (x ≠ y → eqB xs ys = false) := by
  constructor
  · intro h1 h2
    rw [List.take_add_one, List.take_add_one, hx, hy, h1, h2]
  · intro h
    exact eqB_false.2 fun e => h (by rw [e, hy] at hx; exact (Option.some.inj hx).symm)
end
theorem cells_get {w : World} {A : Option Addr} {l : List Int} (h : Cells w A (l.map (Value.int .i64))) {k : Nat} (hk : k < l.length) : ∃ b o, A = some ⟨b, o, none⟩ ∧ w.cell? ⟨b, o + k, none⟩ = some (.int .i64 (l.getD k 0)) := by
  rcases h with h | ⟨b, o, hA, _, hc⟩
  · have := congrArg List.length h
    simp at this
    subst this
    simp at hk
  · refine ⟨b, o, hA, hc k _ ?_⟩
    rw [List.getElem?_map, List.getD_eq_getElem?_getD, List.getElem?_eq_getElem hk]
    rfl
end Go.Proofs.YtbchcipjpcdhfaaGreatDoor
/- Whether two expressions, two commands are the same, part by part. No program in sight. -/
namespace Go.Proofs.YtbchcipjpcdhfaaGreatDoor.Dt
theorem eqB_sexp (a b : Sexp) : eqB a b = (eqB a.kind b.kind && (eqB a.text b.text && eqB a.l b.l)) := by
  rw [Bool.eq_iff_iff]
  simp only [Bool.and_eq_true, eqB_true]
  constructor
  · intro h; subst h; exact ⟨rfl, rfl, rfl⟩
  · intro ⟨h1, h2, h3⟩
    cases a; cases b
    obtain rfl := h1
    obtain rfl := h2
    obtain rfl := h3
    rfl
theorem eqB_cmd (a b : Cmd) : eqB a b = (eqB a.kind b.kind && (eqB a.name b.name && (eqB a.n b.n && (eqB a.res b.res && (eqB a.l b.l && (eqB a.args b.args && (eqB a.params b.params && eqB a.terms b.terms))))))) := by
  rw [Bool.eq_iff_iff]
  simp only [Bool.and_eq_true, eqB_true]
  constructor
  · intro h; subst h; exact ⟨rfl, rfl, rfl, rfl, rfl, rfl, rfl, rfl⟩
  · intro ⟨h1, h2, h3, h4, h5, h6, h7, h8⟩
    cases a; cases b
    obtain rfl := h1
    obtain rfl := h2
    obtain rfl := h3
    obtain rfl := h4
    obtain rfl := h5
    obtain rfl := h6
    obtain rfl := h7
    obtain rfl := h8
    rfl
theorem eqB_int (a b : Int) : eqB a b = decide (a = b) := by unfold eqB; exact decide_eq_decide.2 Iff.rfl
theorem eqB_bytes (a b : ByteArray) : eqB a b = decide (a = b) := by unfold eqB; exact decide_eq_decide.2 Iff.rfl
end Go.Proofs.YtbchcipjpcdhfaaGreatDoor.Dt
/- Rows of strings, of pairs: are they the same? -/
namespace Go.Proofs.YtbchcipjpcdhfaaGreatDoor.Cm
open Go.RowKit Go.Proofs.YtbchcipjpcdhfaaGreatDoor.Dt
theorem bytes_ne {x y : ByteArray} (h : x ≠ y) : (x.toList == y.toList) = false := by
  rw [beq_eq_false_iff_ne]
  intro e
  rw [Lx.bs_toList, Lx.bs_toList] at e
  exact h (ByteArray.ext (Array.toList_inj.1 e))
theorem str_get {w : World} {A : Option Addr} {l : List ByteArray} (h : Lies 1 StrR w A l) {k : Nat} (hk : k < l.length) : ∃ b o, A = some ⟨b, o, none⟩ ∧ w.cell? ⟨b, o + k, none⟩ = some (.string (l.getD k noS)) := by
  obtain ⟨b, o, vs, hA, _, _, hc, hr⟩ := h.at' (List.getElem?_eq_getElem hk)
  obtain ⟨rfl, _⟩ := hr
  refine ⟨b, o, hA, ?_⟩
  have := hc 0 _ rfl
  rw [Nat.mul_one, Nat.add_zero] at this
  rw [this, List.getD_eq_getElem?_getD, List.getElem?_eq_getElem hk]
  rfl
theorem pair_get {w : World} {A : Option Addr} {l : List (ByteArray × ByteArray)} (h : Lies 2 PairR w A l) {k : Nat} (hk : k < l.length) : ∃ b o, A = some ⟨b, o, none⟩ ∧ w.cell? ⟨b, o + k * 2, none⟩ = some (.string (l.getD k (noS, noS)).1) ∧ w.cell? ⟨b, o + k * 2 + 1, none⟩ = some (.string (l.getD k (noS, noS)).2) := by
  obtain ⟨b, o, vs, hA, _, _, hc, hr⟩ := h.at' (List.getElem?_eq_getElem hk)
  obtain ⟨rfl, _⟩ := hr
  refine ⟨b, o, hA, ?_⟩
  rw [List.getD_eq_getElem?_getD, List.getElem?_eq_getElem hk]
  exact ⟨hc 0 _ rfl, hc 1 _ rfl⟩
set_option maxHeartbeats 1600000 in
theorem eqInts_any (xs ys : List Int) (w : World) (A B : Option Addr) (c d : Nat) (hx : Cells w A (xs.map (Value.int .i64))) (hy : Cells w B (ys.map (Value.int .i64))) (hl : (xs.length : Int) ≤ 9223372036854775807) (_ : (ys.length : Int) ≤ 9223372036854775807) :
    Calls Tryz.prog 43 #[.slice A xs.length c, .slice B ys.length d] w fun e w' => e = .returned (.bool (eqB xs ys)) ∧ Below w.heap.size w w' := by
  by_cases hq : xs.length = ys.length
  · have hq2 : ((xs.length : Int) != (ys.length : Int)) = false := by simp; omega
    have HE := Lib.hid (eqB_full hq)
    go_enter Tryz.func43, Tryz.ntmps43
    go_wp2_with fail
    go_loopw [13] (fun v wr => ∃ k : Nat, k ≤ xs.length ∧ v = .int .i64 k ∧ xs.take k = ys.take k ∧ Below w.heap.size w wr) (fun v _ => xs.length - (intOf v).toNat)
    case atStart => exact ⟨0, Nat.zero_le _, rfl, by simp, Below.refl _ _⟩
    case round =>
      obtain ⟨k, hk, rfl, ht, hb⟩ := hrel
      have HT := Lib.hid ht
      have HB := Lib.hid hb
      clear ht
      by_cases hlt : k < xs.length
      · have hlt2 : (k : Int) < (xs.length : Int) := by omega
        have hltm : (k : Int) < (ys.length : Int) := by omega
        obtain ⟨b, o, rfl, p0⟩ := cells_get (hx.on (hb.drew)) hlt
        obtain ⟨b', o', rfl, r0⟩ := cells_get (hy.on (hb.drew)) (show k < ys.length by omega)
        have HS := Lib.hid (eqB_step (xs := xs) (ys := ys) (d := 0) hlt (by omega))
        generalize xs.getD k 0 = x at *
        generalize ys.getD k 0 = y at *
        clear hb
        by_cases he : x = y
        · have he2 : (x != y) = false := by simp [he]
          have HN := Lib.hid ((HS.out.1 he) HT.out)
          clear he HS
          go_wp2_with fail
          refine wp_region_held_drew (S := fun W => W.cell? ⟨b, o + k, none⟩ = some (.int .i64 x) ∧ W.cell? ⟨b', o' + k, none⟩ = some (.int .i64 y)) (by kernel_rfl) (⟨p0, r0⟩) (fun hHeld => ?_)
          refine wpAnyH_take (i := 0) (oi := Oper.mk _ _ _ _ _ _) (v := ?_) rfl (by kernel_rfl) (by kernel_rfl) (by kernel_rfl) (fun _ _ _ h => h) (Or.inl ⟨by rfl, ?_⟩) (by assumption) ?_
          rotate_left
          · (intro w hSw; (try dsimp only at hSw); go_simp; try with_reducible rfl)
          try simp only [Act.put, List.setIfInBounds_toArray, List.set_cons_zero, List.set_cons_succ]
          refine wpAnyH_take (i := 1) (oi := Oper.mk _ _ _ _ _ _) (v := ?_) rfl (by kernel_rfl) (by kernel_rfl) (by kernel_rfl) (fun _ _ _ h => h) (Or.inl ⟨by rfl, ?_⟩) (by assumption) ?_
          rotate_left
          · (intro w hSw; (try dsimp only at hSw); go_simp; try with_reducible rfl)
          try simp only [Act.put, List.setIfInBounds_toArray, List.set_cons_zero, List.set_cons_succ]
          refine wpAnyH_take (i := 2) (oi := Oper.mk _ _ _ _ _ _) (v := ?_) rfl (by kernel_rfl) (by kernel_rfl) (by kernel_rfl) (fun _ _ _ h => h) (Or.inl ⟨by rfl, ?_⟩) (by assumption) ?_
          rotate_left
          · (intro w hSw; (try dsimp only at hSw); go_simp; try with_reducible rfl)
          try simp only [Act.put, List.setIfInBounds_toArray, List.set_cons_zero, List.set_cons_succ]
          refine wpAnyH_take (i := 3) (oi := Oper.mk _ _ _ _ _ _) (v := ?_) rfl (by kernel_rfl) (by kernel_rfl) (by kernel_rfl) (fun _ _ _ h => h) (Or.inl ⟨by rfl, ?_⟩) (by assumption) ?_
          rotate_left
          · (intro w hSw; (try dsimp only at hSw); go_simp; try with_reducible rfl)
          try simp only [Act.put, List.setIfInBounds_toArray, List.set_cons_zero, List.set_cons_succ]
          refine wpAnyH_take (i := 4) (oi := Oper.mk _ _ _ _ _ _) (v := ?_) rfl (by kernel_rfl) (by kernel_rfl) (by kernel_rfl) (fun _ _ _ h => h) (Or.inl ⟨by rfl, ?_⟩) (by assumption) ?_
          rotate_left
          · (intro w hSw; (try dsimp only at hSw); go_simp; try with_reducible rfl)
          try simp only [Act.put, List.setIfInBounds_toArray, List.set_cons_zero, List.set_cons_succ]
          refine wpAnyH_take (i := 5) (oi := Oper.mk _ _ _ _ _ _) (v := ?_) rfl (by kernel_rfl) (by kernel_rfl) (by kernel_rfl) (fun _ _ _ h => h) (Or.inl ⟨by rfl, ?_⟩) (by assumption) ?_
          rotate_left
          · (intro w hSw; (try dsimp only at hSw); go_simp; try with_reducible rfl)
          try simp only [Act.put, List.setIfInBounds_toArray, List.set_cons_zero, List.set_cons_succ]
          refine wpAnyH_take (i := 6) (oi := Oper.mk _ _ _ _ _ _) (v := ?_) rfl (by kernel_rfl) (by kernel_rfl) (by kernel_rfl) (fun _ _ _ h => h) (Or.inl ⟨by rfl, ?_⟩) (by assumption) ?_
          rotate_left
          · (intro w hSw; (try dsimp only at hSw); go_simp; try with_reducible rfl)
          try simp only [Act.put, List.setIfInBounds_toArray, List.set_cons_zero, List.set_cons_succ]
          refine wpAnyH_take (i := 7) (oi := Oper.mk _ _ _ _ _ _) (v := ?_) rfl (by kernel_rfl) (by kernel_rfl) (by kernel_rfl) (fun _ _ _ h => h) (Or.inl ⟨by rfl, ?_⟩) (by assumption) ?_
          rotate_left
          · (intro w hSw; (try dsimp only at hSw); go_simp; try with_reducible rfl)
          try simp only [Act.put, List.setIfInBounds_toArray, List.set_cons_zero, List.set_cons_succ]
          refine wpAnyH_take (i := 8) (oi := Oper.mk _ _ _ _ _ _) (v := ?_) rfl (by kernel_rfl) (by kernel_rfl) (by kernel_rfl) (fun _ _ _ h => h) (Or.inl ⟨by rfl, ?_⟩) (by assumption) ?_
          rotate_left
          · (intro w hSw; (try dsimp only at hSw); go_simp; try with_reducible rfl)
          try simp only [Act.put, List.setIfInBounds_toArray, List.set_cons_zero, List.set_cons_succ]
          refine wpAnyH_done (by kernel_rfl) ?_ _
          go_wp2_with fail
          go_roundw
          case rel => exact ⟨k + 1, by omega, by go_num, HN.out, HB.out.drew⟩
          case measure => simp [intOf]; omega
        · have he2 : (x != y) = true := by simp [he]
          have HN := Lib.hid (HS.out.2 he)
          clear he HS
          go_wp2_with fail
          refine wp_region_held_drew (S := fun W => W.cell? ⟨b, o + k, none⟩ = some (.int .i64 x) ∧ W.cell? ⟨b', o' + k, none⟩ = some (.int .i64 y)) (by kernel_rfl) (⟨p0, r0⟩) (fun hHeld => ?_)
          refine wpAnyH_take (i := 0) (oi := Oper.mk _ _ _ _ _ _) (v := ?_) rfl (by kernel_rfl) (by kernel_rfl) (by kernel_rfl) (fun _ _ _ h => h) (Or.inl ⟨by rfl, ?_⟩) (by assumption) ?_
          rotate_left
          · (intro w hSw; (try dsimp only at hSw); go_simp; try with_reducible rfl)
          try simp only [Act.put, List.setIfInBounds_toArray, List.set_cons_zero, List.set_cons_succ]
          refine wpAnyH_take (i := 1) (oi := Oper.mk _ _ _ _ _ _) (v := ?_) rfl (by kernel_rfl) (by kernel_rfl) (by kernel_rfl) (fun _ _ _ h => h) (Or.inl ⟨by rfl, ?_⟩) (by assumption) ?_
          rotate_left
          · (intro w hSw; (try dsimp only at hSw); go_simp; try with_reducible rfl)
          try simp only [Act.put, List.setIfInBounds_toArray, List.set_cons_zero, List.set_cons_succ]
          refine wpAnyH_take (i := 2) (oi := Oper.mk _ _ _ _ _ _) (v := ?_) rfl (by kernel_rfl) (by kernel_rfl) (by kernel_rfl) (fun _ _ _ h => h) (Or.inl ⟨by rfl, ?_⟩) (by assumption) ?_
          rotate_left
          · (intro w hSw; (try dsimp only at hSw); go_simp; try with_reducible rfl)
          try simp only [Act.put, List.setIfInBounds_toArray, List.set_cons_zero, List.set_cons_succ]
          refine wpAnyH_take (i := 3) (oi := Oper.mk _ _ _ _ _ _) (v := ?_) rfl (by kernel_rfl) (by kernel_rfl) (by kernel_rfl) (fun _ _ _ h => h) (Or.inl ⟨by rfl, ?_⟩) (by assumption) ?_
          rotate_left
          · (intro w hSw; (try dsimp only at hSw); go_simp; try with_reducible rfl)
          try simp only [Act.put, List.setIfInBounds_toArray, List.set_cons_zero, List.set_cons_succ]
          refine wpAnyH_take (i := 4) (oi := Oper.mk _ _ _ _ _ _) (v := ?_) rfl (by kernel_rfl) (by kernel_rfl) (by kernel_rfl) (fun _ _ _ h => h) (Or.inl ⟨by rfl, ?_⟩) (by assumption) ?_
          rotate_left
          · (intro w hSw; (try dsimp only at hSw); go_simp; try with_reducible rfl)
          try simp only [Act.put, List.setIfInBounds_toArray, List.set_cons_zero, List.set_cons_succ]
          refine wpAnyH_take (i := 5) (oi := Oper.mk _ _ _ _ _ _) (v := ?_) rfl (by kernel_rfl) (by kernel_rfl) (by kernel_rfl) (fun _ _ _ h => h) (Or.inl ⟨by rfl, ?_⟩) (by assumption) ?_
          rotate_left
          · (intro w hSw; (try dsimp only at hSw); go_simp; try with_reducible rfl)
          try simp only [Act.put, List.setIfInBounds_toArray, List.set_cons_zero, List.set_cons_succ]
          refine wpAnyH_take (i := 6) (oi := Oper.mk _ _ _ _ _ _) (v := ?_) rfl (by kernel_rfl) (by kernel_rfl) (by kernel_rfl) (fun _ _ _ h => h) (Or.inl ⟨by rfl, ?_⟩) (by assumption) ?_
          rotate_left
          · (intro w hSw; (try dsimp only at hSw); go_simp; try with_reducible rfl)
          try simp only [Act.put, List.setIfInBounds_toArray, List.set_cons_zero, List.set_cons_succ]
          refine wpAnyH_take (i := 7) (oi := Oper.mk _ _ _ _ _ _) (v := ?_) rfl (by kernel_rfl) (by kernel_rfl) (by kernel_rfl) (fun _ _ _ h => h) (Or.inl ⟨by rfl, ?_⟩) (by assumption) ?_
          rotate_left
          · (intro w hSw; (try dsimp only at hSw); go_simp; try with_reducible rfl)
          try simp only [Act.put, List.setIfInBounds_toArray, List.set_cons_zero, List.set_cons_succ]
          refine wpAnyH_take (i := 8) (oi := Oper.mk _ _ _ _ _ _) (v := ?_) rfl (by kernel_rfl) (by kernel_rfl) (by kernel_rfl) (fun _ _ _ h => h) (Or.inl ⟨by rfl, ?_⟩) (by assumption) ?_
          rotate_left
          · (intro w hSw; (try dsimp only at hSw); go_simp; try with_reducible rfl)
          try simp only [Act.put, List.setIfInBounds_toArray, List.set_cons_zero, List.set_cons_succ]
          refine wpAnyH_done (by kernel_rfl) ?_ _
          go_wp2_with fail
          go_ret
          exact ⟨ret_bool HN.out.symm, HB.out.drew⟩
      · obtain rfl : k = xs.length := by omega
        have HN := Lib.hid (HE.out HT.out)
        clear hb
        go_wp2_with fail
        go_ret
        exact ⟨ret_bool HN.out.symm, HB.out⟩
  · have hq2 : ((xs.length : Int) != (ys.length : Int)) = true := by simp; omega
    have HN := Lib.hid (eqB_len hq)
    clear hq
    go_enter Tryz.func43, Tryz.ntmps43
    go_wp2_with fail
    go_ret
    exact ⟨ret_bool HN.out.symm, Below.refl _ _⟩
set_option maxHeartbeats 1600000 in
theorem eqStrs_any (xs ys : List ByteArray) (w : World) (A B : Option Addr) (c d : Nat) (hx : Lies 1 StrR w A xs) (hy : Lies 1 StrR w B ys) (hl : (xs.length : Int) ≤ 9223372036854775807) (_ : (ys.length : Int) ≤ 9223372036854775807) :
    Calls Tryz.prog 44 #[.slice A xs.length c, .slice B ys.length d] w fun e w' => e = .returned (.bool (eqB xs ys)) ∧ Below w.heap.size w w' := by
  by_cases hq : xs.length = ys.length
  · have hq2 : ((xs.length : Int) != (ys.length : Int)) = false := by simp; omega
    have HE := Lib.hid (eqB_full hq)
    have hle : ys.length ≤ xs.length := by omega
    have hle' : xs.length ≤ ys.length := by omega
    clear hq
    go_enter Tryz.func44, Tryz.ntmps44
    go_wp2_with fail
    go_loopw [13] (fun v wr => ∃ k : Nat, k ≤ xs.length ∧ v = .int .i64 k ∧ xs.take k = ys.take k ∧ Below w.heap.size w wr) (fun v _ => xs.length - (intOf v).toNat)
    case atStart => exact ⟨0, Nat.zero_le _, rfl, by simp, Below.refl _ _⟩
    case round =>
      obtain ⟨k, hk, rfl, ht, hb⟩ := hrel
      have HT := Lib.hid ht
      have HB := Lib.hid hb
      clear ht
      by_cases hlt : k < xs.length
      · have hlt2 : (k : Int) < (xs.length : Int) := by omega
        have hltm : (k : Int) < (ys.length : Int) := by omega
        obtain ⟨b, o, rfl, p0⟩ := str_get (hx.on StrR.lasts (hb.drew)) hlt
        obtain ⟨b', o', rfl, r0⟩ := str_get (hy.on StrR.lasts (hb.drew)) (show k < ys.length by omega)
        have HS := Lib.hid (eqB_step (xs := xs) (ys := ys) (d := noS) hlt (by omega))
        generalize xs.getD k noS = x at *
        generalize ys.getD k noS = y at *
        clear hb
        by_cases he : x = y
        · have he2 : (x.toList == y.toList) = true := by simp [he]
          have HN := Lib.hid ((HS.out.1 he) HT.out)
          clear he HS
          go_wp2_with fail
          refine wp_region_held_drew (S := fun W => W.cell? ⟨b, o + k, none⟩ = some (.string x) ∧ W.cell? ⟨b', o' + k, none⟩ = some (.string y)) (by kernel_rfl) (⟨p0, r0⟩) (fun hHeld => ?_)
          refine wpAnyH_take (i := 0) (oi := Oper.mk _ _ _ _ _ _) (v := ?_) rfl (by kernel_rfl) (by kernel_rfl) (by kernel_rfl) (fun _ _ _ h => h) (Or.inl ⟨by rfl, ?_⟩) (by assumption) ?_
          rotate_left
          · (intro w hSw; (try dsimp only at hSw); go_simp; try with_reducible rfl)
          try simp only [Act.put, List.setIfInBounds_toArray, List.set_cons_zero, List.set_cons_succ]
          refine wpAnyH_take (i := 1) (oi := Oper.mk _ _ _ _ _ _) (v := ?_) rfl (by kernel_rfl) (by kernel_rfl) (by kernel_rfl) (fun _ _ _ h => h) (Or.inl ⟨by rfl, ?_⟩) (by assumption) ?_
          rotate_left
          · (intro w hSw; (try dsimp only at hSw); go_simp; try with_reducible rfl)
          try simp only [Act.put, List.setIfInBounds_toArray, List.set_cons_zero, List.set_cons_succ]
          refine wpAnyH_take (i := 2) (oi := Oper.mk _ _ _ _ _ _) (v := ?_) rfl (by kernel_rfl) (by kernel_rfl) (by kernel_rfl) (fun _ _ _ h => h) (Or.inl ⟨by rfl, ?_⟩) (by assumption) ?_
          rotate_left
          · (intro w hSw; (try dsimp only at hSw); go_simp; try with_reducible rfl)
          try simp only [Act.put, List.setIfInBounds_toArray, List.set_cons_zero, List.set_cons_succ]
          refine wpAnyH_take (i := 3) (oi := Oper.mk _ _ _ _ _ _) (v := ?_) rfl (by kernel_rfl) (by kernel_rfl) (by kernel_rfl) (fun _ _ _ h => h) (Or.inl ⟨by rfl, ?_⟩) (by assumption) ?_
          rotate_left
          · (intro w hSw; (try dsimp only at hSw); go_simp; try with_reducible rfl)
          try simp only [Act.put, List.setIfInBounds_toArray, List.set_cons_zero, List.set_cons_succ]
          refine wpAnyH_take (i := 4) (oi := Oper.mk _ _ _ _ _ _) (v := ?_) rfl (by kernel_rfl) (by kernel_rfl) (by kernel_rfl) (fun _ _ _ h => h) (Or.inl ⟨by rfl, ?_⟩) (by assumption) ?_
          rotate_left
          · (intro w hSw; (try dsimp only at hSw); go_simp; try with_reducible rfl)
          try simp only [Act.put, List.setIfInBounds_toArray, List.set_cons_zero, List.set_cons_succ]
          refine wpAnyH_take (i := 5) (oi := Oper.mk _ _ _ _ _ _) (v := ?_) rfl (by kernel_rfl) (by kernel_rfl) (by kernel_rfl) (fun _ _ _ h => h) (Or.inl ⟨by rfl, ?_⟩) (by assumption) ?_
          rotate_left
          · (intro w hSw; (try dsimp only at hSw); go_simp; try with_reducible rfl)
          try simp only [Act.put, List.setIfInBounds_toArray, List.set_cons_zero, List.set_cons_succ]
          refine wpAnyH_take (i := 6) (oi := Oper.mk _ _ _ _ _ _) (v := ?_) rfl (by kernel_rfl) (by kernel_rfl) (by kernel_rfl) (fun _ _ _ h => h) (Or.inl ⟨by rfl, ?_⟩) (by assumption) ?_
          rotate_left
          · (intro w hSw; (try dsimp only at hSw); go_simp; try with_reducible rfl)
          try simp only [Act.put, List.setIfInBounds_toArray, List.set_cons_zero, List.set_cons_succ]
          refine wpAnyH_take (i := 7) (oi := Oper.mk _ _ _ _ _ _) (v := ?_) rfl (by kernel_rfl) (by kernel_rfl) (by kernel_rfl) (fun _ _ _ h => h) (Or.inl ⟨by rfl, ?_⟩) (by assumption) ?_
          rotate_left
          · (intro w hSw; (try dsimp only at hSw); go_simp; try with_reducible rfl)
          try simp only [Act.put, List.setIfInBounds_toArray, List.set_cons_zero, List.set_cons_succ]
          refine wpAnyH_take (i := 8) (oi := Oper.mk _ _ _ _ _ _) (v := ?_) rfl (by kernel_rfl) (by kernel_rfl) (by kernel_rfl) (fun _ _ _ h => h) (Or.inl ⟨by rfl, ?_⟩) (by assumption) ?_
          rotate_left
          · (intro w hSw; (try dsimp only at hSw); go_simp; try with_reducible rfl)
          try simp only [Act.put, List.setIfInBounds_toArray, List.set_cons_zero, List.set_cons_succ]
          refine wpAnyH_done (by kernel_rfl) ?_ _
          go_wp2_with fail
          go_roundw
          case rel => exact ⟨k + 1, by omega, by go_num, HN.out, HB.out.drew⟩
          case measure => simp [intOf]; omega
        · have he2 : (x.toList == y.toList) = false := bytes_ne he
          have HN := Lib.hid (HS.out.2 he)
          clear he HS
          go_wp2_with fail
          refine wp_region_held_drew (S := fun W => W.cell? ⟨b, o + k, none⟩ = some (.string x) ∧ W.cell? ⟨b', o' + k, none⟩ = some (.string y)) (by kernel_rfl) (⟨p0, r0⟩) (fun hHeld => ?_)
          refine wpAnyH_take (i := 0) (oi := Oper.mk _ _ _ _ _ _) (v := ?_) rfl (by kernel_rfl) (by kernel_rfl) (by kernel_rfl) (fun _ _ _ h => h) (Or.inl ⟨by rfl, ?_⟩) (by assumption) ?_
          rotate_left
          · (intro w hSw; (try dsimp only at hSw); go_simp; try with_reducible rfl)
          try simp only [Act.put, List.setIfInBounds_toArray, List.set_cons_zero, List.set_cons_succ]
          refine wpAnyH_take (i := 1) (oi := Oper.mk _ _ _ _ _ _) (v := ?_) rfl (by kernel_rfl) (by kernel_rfl) (by kernel_rfl) (fun _ _ _ h => h) (Or.inl ⟨by rfl, ?_⟩) (by assumption) ?_
          rotate_left
          · (intro w hSw; (try dsimp only at hSw); go_simp; try with_reducible rfl)
          try simp only [Act.put, List.setIfInBounds_toArray, List.set_cons_zero, List.set_cons_succ]
          refine wpAnyH_take (i := 2) (oi := Oper.mk _ _ _ _ _ _) (v := ?_) rfl (by kernel_rfl) (by kernel_rfl) (by kernel_rfl) (fun _ _ _ h => h) (Or.inl ⟨by rfl, ?_⟩) (by assumption) ?_
          rotate_left
          · (intro w hSw; (try dsimp only at hSw); go_simp; try with_reducible rfl)
          try simp only [Act.put, List.setIfInBounds_toArray, List.set_cons_zero, List.set_cons_succ]
          refine wpAnyH_take (i := 3) (oi := Oper.mk _ _ _ _ _ _) (v := ?_) rfl (by kernel_rfl) (by kernel_rfl) (by kernel_rfl) (fun _ _ _ h => h) (Or.inl ⟨by rfl, ?_⟩) (by assumption) ?_
          rotate_left
          · (intro w hSw; (try dsimp only at hSw); go_simp; try with_reducible rfl)
          try simp only [Act.put, List.setIfInBounds_toArray, List.set_cons_zero, List.set_cons_succ]
          refine wpAnyH_take (i := 4) (oi := Oper.mk _ _ _ _ _ _) (v := ?_) rfl (by kernel_rfl) (by kernel_rfl) (by kernel_rfl) (fun _ _ _ h => h) (Or.inl ⟨by rfl, ?_⟩) (by assumption) ?_
          rotate_left
          · (intro w hSw; (try dsimp only at hSw); go_simp; try with_reducible rfl)
          try simp only [Act.put, List.setIfInBounds_toArray, List.set_cons_zero, List.set_cons_succ]
          refine wpAnyH_take (i := 5) (oi := Oper.mk _ _ _ _ _ _) (v := ?_) rfl (by kernel_rfl) (by kernel_rfl) (by kernel_rfl) (fun _ _ _ h => h) (Or.inl ⟨by rfl, ?_⟩) (by assumption) ?_
          rotate_left
          · (intro w hSw; (try dsimp only at hSw); go_simp; try with_reducible rfl)
          try simp only [Act.put, List.setIfInBounds_toArray, List.set_cons_zero, List.set_cons_succ]
          refine wpAnyH_take (i := 6) (oi := Oper.mk _ _ _ _ _ _) (v := ?_) rfl (by kernel_rfl) (by kernel_rfl) (by kernel_rfl) (fun _ _ _ h => h) (Or.inl ⟨by rfl, ?_⟩) (by assumption) ?_
          rotate_left
          · (intro w hSw; (try dsimp only at hSw); go_simp; try with_reducible rfl)
          try simp only [Act.put, List.setIfInBounds_toArray, List.set_cons_zero, List.set_cons_succ]
          refine wpAnyH_take (i := 7) (oi := Oper.mk _ _ _ _ _ _) (v := ?_) rfl (by kernel_rfl) (by kernel_rfl) (by kernel_rfl) (fun _ _ _ h => h) (Or.inl ⟨by rfl, ?_⟩) (by assumption) ?_
          rotate_left
          · (intro w hSw; (try dsimp only at hSw); go_simp; try with_reducible rfl)
          try simp only [Act.put, List.setIfInBounds_toArray, List.set_cons_zero, List.set_cons_succ]
          refine wpAnyH_take (i := 8) (oi := Oper.mk _ _ _ _ _ _) (v := ?_) rfl (by kernel_rfl) (by kernel_rfl) (by kernel_rfl) (fun _ _ _ h => h) (Or.inl ⟨by rfl, ?_⟩) (by assumption) ?_
          rotate_left
          · (intro w hSw; (try dsimp only at hSw); go_simp; try with_reducible rfl)
          try simp only [Act.put, List.setIfInBounds_toArray, List.set_cons_zero, List.set_cons_succ]
          refine wpAnyH_done (by kernel_rfl) ?_ _
          go_wp2_with fail
          go_ret
          exact ⟨ret_bool HN.out.symm, HB.out.drew⟩
      · obtain rfl : k = xs.length := by omega
        have HN := Lib.hid (HE.out HT.out)
        clear hb
        go_wp2_with fail
        go_ret
        exact ⟨ret_bool HN.out.symm, HB.out⟩
  · have hq2 : ((xs.length : Int) != (ys.length : Int)) = true := by simp; omega
    have HN := Lib.hid (eqB_len hq)
    clear hq
    go_enter Tryz.func44, Tryz.ntmps44
    go_wp2_with fail
    go_ret
    exact ⟨ret_bool HN.out.symm, Below.refl _ _⟩
end Go.Proofs.YtbchcipjpcdhfaaGreatDoor.Cm
