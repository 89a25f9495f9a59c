import Derived.Test.YtfcmpfaonpnbaaaGreatDoorMk
import Derived.Test.YtfcmpfaonpnbaaaGreatDoorMh
import Derived.Test.YtfcmpfaonpnbaaaGreatDoorMg
/- merged by wip/merge.py from: ValMay -/
/- The program's value: whether a world may be. -/
namespace Go.Proofs.YtfcmpfaonpnbaaaGreatDoor.Vl
open Go.RowKit Go.Proofs.YtfcmpfaonpnbaaaGreatDoor.Dt Go.Proofs.YtfcmpfaonpnbaaaGreatDoor.Sg

def badSize (n : Int) : Bool := !decide (1 ≤ n ∧ n ≤ 1000)
set_option maxHeartbeats 800000 in
theorem may1_any (n : Int) (w : World) :
    Calls Tryz.prog 37 #[.int .i64 n] w fun e w' => e = .returned (.bool (badSize n)) ∧ w = w' := by
  by_cases h : n < 1
  · have h' := decide_eq_true h
    go_enter Tryz.func37, Tryz.ntmps37
    go_wp2_with fail
    go_ret
    exact ⟨ret_bool (by rw [badSize, decide_eq_false (show ¬ (1 ≤ n ∧ n ≤ 1000) by omega)]; rfl), rfl⟩
  · have h' := decide_eq_false h
    by_cases h2 : 1000 < n
    · have h2' := decide_eq_true h2
      go_enter Tryz.func37, Tryz.ntmps37
      go_wp2_with fail
      go_ret
      exact ⟨ret_bool (by rw [badSize, decide_eq_false (show ¬ (1 ≤ n ∧ n ≤ 1000) by omega)]; rfl), rfl⟩
    · have h2' := decide_eq_false h2
      go_enter Tryz.func37, Tryz.ntmps37
      go_wp2_with fail
      go_ret
      exact ⟨ret_bool (by rw [badSize, decide_eq_true (show (1 ≤ n ∧ n ≤ 1000) by omega)]; rfl), rfl⟩
set_option maxHeartbeats 1600000 in
theorem idx_sizes (xs : List Int) (w : World) (A : Option Addr) (c : Nat) (hc : Cells w A (xs.map (Value.int .i64))) (hl : (xs.length : Int) ≤ 9223372036854775807) :
    Calls Tryz.prog 59 #[.slice A xs.length c, .func (Fn.func 37) #[] #[]] w fun e w' => IdxPost (xs.any badSize) e ∧ w = w' := by
  go_enter Tryz.func59, Tryz.ntmps59
  go_wp2_with fail
  go_loop [8] (fun v => ∃ k : Nat, k ≤ xs.length ∧ v = .int .i64 k ∧ (xs.take k).any badSize = false) (fun v => xs.length - (intOf v).toNat)
  case atStart => exact ⟨0, Nat.zero_le _, rfl, rfl⟩
  case round =>
    obtain ⟨k, hk, rfl, hn⟩ := hrel
    have HN := Lib.hid hn
    clear hn
    by_cases hlt : k < xs.length
    · have hlt2 : (k : Int) < (xs.length : Int) := by omega
      have hx := List.getElem?_eq_getElem hlt
      generalize xs[k] = x at hx
      rcases hc with h0 | ⟨b, o, rfl, hbl, hcell⟩
      · simp at h0; rw [h0] at hlt; simp at hlt
      · have c0 := hcell k ((Value.int .i64) x) (by simp [hx])
        have HC := Lib.hid (may1_any x w)
        have HX := Lib.hid hx
        clear hcell hx
        cases hq : badSize x with
        | true =>
          have HQ := Lib.hid (show xs.any badSize = true from List.any_eq_true.2 ⟨x, List.mem_of_getElem? HX.out, hq⟩)
          rw [hq] at HC
          clear hq
          go_wp2_with fail
          refine HC.out.mono ?_
          rintro e w' ⟨rfl, rfl⟩
          go_wp2_with fail
          go_ret
          exact ⟨⟨k, rfl, by rw [HQ.out]; exact decide_eq_true (by omega)⟩, rfl⟩
        | false =>
          have HQ := Lib.hid (show (xs.take (k + 1)).any badSize = false by rw [List.take_add_one, HX.out, List.any_append, HN.out]; simpa using hq)
          rw [hq] at HC
          clear hq
          go_wp2_with fail
          refine HC.out.mono ?_
          rintro e w' ⟨rfl, rfl⟩
          go_wp2_with fail
          go_round
          case rel => exact ⟨k + 1, by omega, by go_num, HQ.out⟩
          case measure => simp [intOf]; omega
    · obtain rfl : k = xs.length := by omega
      have HQ := Lib.hid (show xs.any badSize = false by have h := HN.out; rwa [List.take_length] at h)
      go_wp2_with fail
      go_ret
      exact ⟨⟨-1, rfl, by rw [HQ.out]; exact decide_eq_false (by omega)⟩, rfl⟩
set_option maxHeartbeats 800000 in
theorem contains_sizes (xs : List Int) (w : World) (A : Option Addr) (c : Nat) (hc : Cells w A (xs.map (Value.int .i64))) (hl : (xs.length : Int) ≤ 9223372036854775807) :
    Calls Tryz.prog 36 #[.slice A xs.length c, .func (Fn.func 37) #[] #[]] w fun e w' => e = .returned (.bool (xs.any badSize)) ∧ w = w' := by
  have HI := Lib.hid (idx_sizes xs w A c hc hl)
  generalize xs.any badSize = b at *
  clear hc
  go_enter Tryz.func36, Tryz.ntmps36
  go_wp2_with fail
  refine HI.out.mono ?_
  rintro e w' ⟨⟨r, rfl, hr⟩, rfl⟩
  have HR := Lib.hid hr
  clear hr
  go_wp2_with fail
  go_ret
  exact ⟨ret_bool HR.out, rfl⟩
theorem any_bad (l : List Int) : l.any badSize = !sizesOk l := by
  unfold sizesOk badSize
  rw [Bool.eq_iff_iff]
  simp [List.all_eq_false]
  constructor
  · rintro ⟨x, hx, h⟩; exact ⟨x, hx, by omega⟩
  · rintro ⟨x, hx, h⟩; exact ⟨x, hx, by omega⟩
theorem ints_cells {w : World} {A : Option Addr} {l : List Int} (h : Lies 1 (IntR .i64) w A l) : Cells w A (l.map (Value.int .i64)) :=
  (h.imp (S := One (Value.int .i64)) rfl (fun i x y vs hx hy hr => by
    rw [hx] at hy
    cases hy
    exact hr.1)).one
theorem funval_cells {w W : World} {A : Option Addr} {l : List FunVal} (h : Lies 2 FunValR w A l) (hb : Below w.heap.size w W) {k : Nat} {v : FunVal} (hv : l[k]? = some v) :
    ∃ b o Ar cr, A = some ⟨b, o, none⟩ ∧ b < w.heap.size ∧ W.cell? ⟨b, o + k * 2, none⟩ = some (.slice Ar v.rows.length cr) ∧ W.cell? ⟨b, o + k * 2 + 1, none⟩ = some (.int .i64 v.els) ∧ Lies 4 RowR W Ar v.rows ∧ I64 v.els ∧ v.rows.length * 32 ≤ 140737488351232 ∧ v.rows.length ≤ cr ∧ cr ≤ maxLen := by
  obtain ⟨b, o, vs, rfl, hbl, _, hcell, Ar, cr, rfl, h1, h2, h3, h4, h5⟩ := h.at' hv
  have e := fun j u (hu : _) => ((bcell hb).1 b (o + k * 2 + j) hbl).trans (hcell j u hu)
  exact ⟨b, o, Ar, cr, rfl, hbl, e 0 _ rfl, e 1 _ rfl, h1.on RowR.lasts hb, h4, h5, h2, h3⟩
/-- a signature's box, a world's box -/
structure GW (w : World) (gp wp : Nat) (u0 u1 u2 v0 v1 : Value) : Prop where
  g0 : w.cell? ⟨gp, 0, none⟩ = some u0
  g1 : w.cell? ⟨gp, 1, none⟩ = some u1
  g2 : w.cell? ⟨gp, 2, none⟩ = some u2
  v0 : w.cell? ⟨wp, 0, none⟩ = some v0
  v1 : w.cell? ⟨wp, 1, none⟩ = some v1
  lg : gp < w.heap.size
  lw : wp < w.heap.size
theorem GW.on {w w' : World} {gp wp : Nat} {u0 u1 u2 v0 v1 : Value} (h : GW w gp wp u0 u1 u2 v0 v1) (hb : Below w.heap.size w w') : GW w' gp wp u0 u1 u2 v0 v1 := by
  have e := fun b o (hlt : b < w.heap.size) => (bcell hb).1 b o hlt
  have s := hb.size
  exact ⟨(e _ _ h.lg).trans h.g0, (e _ _ h.lg).trans h.g1, (e _ _ h.lg).trans h.g2, (e _ _ h.lw).trans h.v0, (e _ _ h.lw).trans h.v1, Nat.lt_of_lt_of_le h.lg s, Nat.lt_of_lt_of_le h.lw s⟩
theorem gw_made (w : World) (u0 u1 u2 v0 v1 : Value) (t t' : TypeId) : GW ((w.alloc (.cells #[u0, u1, u2] t)).alloc (.cells #[v0, v1] t')) w.heap.size (w.heap.size + 1) u0 u1 u2 v0 v1 := by
  obtain ⟨g0, g1, g2⟩ := sig_cells w u0 u1 u2 t
  have e := fun o => (bcell ((Below.refl (w.alloc (.cells #[u0, u1, u2] t)).heap.size (w.alloc (.cells #[u0, u1, u2] t))).alloc (Nat.le_refl _) (.cells #[v0, v1] t'))).1 w.heap.size o (by simp)
  exact ⟨(e 0).trans g0, (e 1).trans g1, (e 2).trans g2, box2_cell w _ _ _ 0, box2_cell w _ _ _ 1, by simp; omega, by simp⟩
theorem fun_fit {w W : World} {A : Option Addr} {l : List Fun4} (h : Lies 6 FunR w A l) (hb : Below w.heap.size w W) {k : Nat} {f : Fun4} (hf : l[k]? = some f) {gp wp : Nat} {u0 u1 u2 v0 v1 : Value}
    (g0 : W.cell? ⟨gp, 0, none⟩ = some u0) (g1 : W.cell? ⟨gp, 1, none⟩ = some u1) (g2 : W.cell? ⟨gp, 2, none⟩ = some u2) (q0 : W.cell? ⟨wp, 0, none⟩ = some v0) (q1 : W.cell? ⟨wp, 1, none⟩ = some v1) (lg : gp < W.heap.size) (lw : wp < W.heap.size) :
    ∃ b o, A = some ⟨b, o, none⟩ ∧ b < w.heap.size ∧ FitAt W gp wp b (o + k * 6) u0 u1 u2 v0 v1 f := by
  obtain ⟨b, o, vs, rfl, hbl, _, hcell, rfl, _⟩ := h.at' hf
  have e := fun j u (hu : _) => ((bcell hb).1 b (o + k * 6 + j) hbl).trans (hcell j u hu)
  refine ⟨b, o, rfl, hbl, g0, g1, g2, q0, q1, e 1 _ rfl, fun j hj => ?_, e 5 _ rfl, lg, lw, Nat.lt_of_lt_of_le hbl hb.size⟩
  have : j = 0 ∨ j = 1 ∨ j = 2 := by omega
  rcases this with rfl | rfl | rfl
  · exact e 2 _ rfl
  · exact e 3 _ rfl
  · exact e 4 _ rfl

theorem fun_fit' {w W : World} {b o : Nat} {l : List Fun4} (h : Lies 6 FunR w (some ⟨b, o, none⟩) l) (hb : Below w.heap.size w W) {k : Nat} {f : Fun4} (hf : l[k]? = some f) {gp wp : Nat} {u0 u1 u2 v0 v1 : Value} (hg : GW W gp wp u0 u1 u2 v0 v1) : FitAt W gp wp b (o + k * 6) u0 u1 u2 v0 v1 f := by
  obtain ⟨b', o', e, _, h'⟩ := fun_fit h hb hf hg.g0 hg.g1 hg.g2 hg.v0 hg.v1 hg.lg hg.lw
  simp at e
  obtain ⟨rfl, rfl⟩ := e
  exact h'
theorem funval_cells' {w W : World} {b o : Nat} {l : List FunVal} (h : Lies 2 FunValR w (some ⟨b, o, none⟩) l) (hb : Below w.heap.size w W) {k : Nat} {v : FunVal} (hv : l[k]? = some v) :
    b < w.heap.size ∧ ∃ Ar cr, W.cell? ⟨b, o + k * 2, none⟩ = some (.slice Ar v.rows.length cr) ∧ W.cell? ⟨b, o + k * 2 + 1, none⟩ = some (.int .i64 v.els) ∧ Lies 4 RowR W Ar v.rows ∧ I64 v.els ∧ v.rows.length * 32 ≤ 140737488351232 := by
  obtain ⟨b', o', Ar, cr, e, h1, h2, h3, h4, h5, h6, _⟩ := funval_cells h hb hv
  simp at e
  obtain ⟨rfl, rfl⟩ := e
  exact ⟨h1, Ar, cr, h2, h3, h4, h5, h6⟩
theorem row_cells' {w W : World} {b o : Nat} {l : List Row} (h : Lies 4 RowR w (some ⟨b, o, none⟩) l) (hb : Below w.heap.size w W) {k : Nat} {r : Row} (hr : l[k]? = some r) :
    W.cell? ⟨b, o + k * 4, none⟩ = some (.int .i64 r.a0) ∧ W.cell? ⟨b, o + k * 4 + 1, none⟩ = some (.int .i64 r.a1) ∧ W.cell? ⟨b, o + k * 4 + 2, none⟩ = some (.int .i64 r.a2) ∧ W.cell? ⟨b, o + k * 4 + 3, none⟩ = some (.int .i64 r.val) ∧ I3 (Row.args r) ∧ I64 r.val := by
  obtain ⟨b', o', e, _, h'⟩ := row_cells h hb hr
  simp at e
  obtain ⟨rfl, rfl⟩ := e
  exact h'
theorem lies_addr {α : Type} {n : Nat} {R : World → List Value → α → Prop} {w : World} {A : Option Addr} {l : List α} {k : Nat} {x : α} (h : Lies n R w A l) (hx : l[k]? = some x) : ∃ b o, A = some ⟨b, o, none⟩ ∧ b < w.heap.size := by
  obtain ⟨b, o, _, h1, h2, _⟩ := h.at' hx
  exact ⟨b, o, h1, h2⟩
theorem fun_len' {w : World} {A : Option Addr} {l : List Fun4} (h : Lies 6 FunR w A l) {k : Nat} {f : Fun4} (hf : l[k]? = some f) : I64 f.res ∧ I64 f.len ∧ I64 f.a0 ∧ I64 f.a1 ∧ I64 f.a2 := by
  obtain ⟨_, _, _, _, _, _, _, _, _, h1, h2, h3, h4, h5⟩ := h.at' hf
  exact ⟨h5, h1, h2, h3, h4⟩
theorem funAt_eq {g : Sig} {x : Wrld} {k : Nat} {f : Fun4} {v : FunVal} (hf : g.funs[k]? = some f) (hv : x.funs[k]? = some v) : funAt g x k = (onceB v.rows && (decide (v.rows.length ≤ 400) && (isB g.sorts.length x.sizes f.res v.els && v.rows.all (rowOk g.sorts.length x.sizes f)))) := by
  unfold funAt
  rw [hf, hv]
  simp only [funOkW, Bool.and_assoc]
theorem all_succ {α : Type} {l : List α} {p : α → Bool} {k : Nat} {x : α} (hx : l[k]? = some x) (h : (l.take k).all p = true) : (l.take (k + 1)).all p = p x := by
  rw [List.take_add_one, hx, List.all_append, h]
  simp
theorem all_stop {α : Type} {l : List α} {p : α → Bool} {k : Nat} {x : α} (hx : l[k]? = some x) (h : p x = false) : l.all p = false := by
  rw [List.all_eq_false]
  exact ⟨x, List.mem_of_getElem? hx, by rw [h]; simp⟩
/-- a box of four cells -/
def Box4 (w : World) (b : Nat) (a0 a1 a2 a3 : Value) : Prop :=
  w.cell? ⟨b, 0, none⟩ = some a0 ∧ w.cell? ⟨b, 1, none⟩ = some a1 ∧ w.cell? ⟨b, 2, none⟩ = some a2 ∧ w.cell? ⟨b, 3, none⟩ = some a3 ∧ b < w.heap.size
theorem Box4.on {w w' : World} {b : Nat} {a0 a1 a2 a3 : Value} (h : Box4 w b a0 a1 a2 a3) (hb : Below w.heap.size w w') : Box4 w' b a0 a1 a2 a3 := by
  obtain ⟨h0, h1, h2, h3, h6⟩ := h
  have e := fun o => (bcell hb).1 b o h6
  exact ⟨(e 0).trans h0, (e 1).trans h1, (e 2).trans h2, (e 3).trans h3, Nat.lt_of_lt_of_le h6 hb.size⟩
theorem box4_cells (w : World) (a0 a1 a2 a3 : Value) (t : TypeId) : Box4 (w.alloc (.cells #[a0, a1, a2, a3] t)) w.heap.size a0 a1 a2 a3 := by
  refine ⟨?_, ?_, ?_, ?_, by simp⟩ <;> rw [World.cell?_alloc_mark] <;> rfl
theorem mayW_check {g : Sig} {x : Wrld} (h : checkB g = false) : mayW g x = false := by unfold mayW; rw [h]; rfl
theorem mayW_rest {g : Sig} {x : Wrld} (h : checkB g = true) : mayW g x = (decide (x.sizes.length = g.sorts.length) && (decide (x.funs.length = g.funs.length) && (sizesOk x.sizes && allTo (funAt g x) x.funs.length))) := by
  unfold mayW; rw [h]; simp only [Bool.true_and, Bool.and_assoc]
set_option maxRecDepth 100000 in
set_option maxHeartbeats 6400000 in
theorem vmay_any {w : World} {A1 A2 A3 B1 B2 : Option Addr} {c1 c2 c3 d1 d2 : Nat} {g : Sig} {x : Wrld} (hg : SigAt w A1 c1 A2 c2 A3 c3 g) (hx : WrldAt w B1 d1 B2 d2 x) (hl1 : g.sorts.length ≤ 1000000) (hl2 : g.funs.length ≤ 1000000) (hl3 : g.macros.length ≤ 1000000) (hl4 : (x.sizes.length : Int) ≤ 1000000) :
    Calls Tryz.prog 16 #[.agg #[.slice A1 g.sorts.length c1, .slice A2 g.funs.length c2, .slice A3 g.macros.length c3], .agg #[.slice B1 x.sizes.length d1, .slice B2 x.funs.length d2]] w fun e w' => e = .returned (.bool (mayW g x)) ∧ Below w.heap.size w w' := by
  have HCk := Lib.hid (fun W (hW : Below w.heap.size w W) => check_any (hg.on hW) (by omega) (by omega) (by omega))
  have HSz := Lib.hid (fun W (hW : Below w.heap.size w W) => contains_sizes x.sizes W B1 d1 (ints_cells (hx.sizes.on (IntR.lasts _) hW)) (by omega))
  have HIs := Lib.hid (fun W (hW : Below w.heap.size w W) s v (hv : I64 v) => is_any (A1 := A1) (A2 := A2) (A3 := A3) (B2 := B2) (n1 := g.sorts.length) (c1 := c1) (n2 := g.funs.length) (c2 := c2) (n3 := g.macros.length) (c3 := c3) (d1 := d1) (m := x.funs.length) (d2 := d2) (hx.sizes.on (IntR.lasts _) hW) hl4 (by omega) s v hv)
  have HFt := Lib.hid (fun W (hW : Below w.heap.size w W) gp wp fb fo f h a ha => fits_any (A1 := A1) (A2 := A2) (A3 := A3) (B2 := B2) (n1 := g.sorts.length) (c1 := c1) (n2 := g.funs.length) (c2 := c2) (n3 := g.macros.length) (c3 := c3) (d1 := d1) (m := x.funs.length) (d2 := d2) (gp := gp) (wp := wp) (fb := fb) (fo := fo) (f := f) (hx.sizes.on (IntR.lasts _) hW) hl4 (by omega) h a ha)
  have HFv := Lib.hid hx.funs
  have HFf := Lib.hid hg.funs
  have HE0 := Lib.hid (mayW_check (g := g) (x := x))
  have HE1 := Lib.hid (mayW_rest (g := g) (x := x))
  have HT := Lib.hid (checkE_true (g := g))
  have HF := Lib.hid (checkE_false (g := g))
  have HAn := Lib.hid (any_bad x.sizes)
  have hlf : (x.funs.length : Int) ≤ 140737488351232 := by have := hx.b2; omega
  have HB2 := Lib.hid (((Below.refl w.heap.size w).alloc (Nat.le_refl _) (.cells #[.slice A1 g.sorts.length c1, .slice A2 g.funs.length c2, .slice A3 g.macros.length c3] 26)).alloc (by simp) (.cells #[.slice B1 x.sizes.length d1, .slice B2 x.funs.length d2] 30))
  have HG2 := Lib.hid (gw_made w (.slice A1 g.sorts.length c1) (.slice A2 g.funs.length c2) (.slice A3 g.macros.length c3) (.slice B1 x.sizes.length d1) (.slice B2 x.funs.length d2) 26 30)
  clear hg hx
  generalize mayW g x = mb at *
  generalize hn1 : g.sorts.length = n1 at *
  generalize hn2 : g.funs.length = n2 at *
  generalize hn3 : g.macros.length = n3 at *
  generalize hm1 : x.sizes.length = m1 at *
  generalize hm2 : x.funs.length = m2 at *
  have HAt := Lib.hid (fun k f v hf hv => funAt_eq (g := g) (x := x) (k := k) (f := f) (v := v) hf hv)
  rw [hn1] at HAt
  have HAs := Lib.hid (fun k => allTo_succ (funAt g x) k)
  have HAx := Lib.hid (fun k (hk : k < m2) h => allTo_stop (p := funAt g x) (k := k) (n := m2) hk h)
  generalize checkB g = cb at *
  generalize checkE g = ce at *
  generalize x.sizes.any badSize = ab at *
  generalize sizesOk x.sizes = so at *
  go_enter Tryz.func16, Tryz.ntmps16
  go_wp2_with fail
  generalize (w.alloc (.cells #[.slice A1 n1 c1, .slice A2 n2 c2, .slice A3 n3 c3] 26)).alloc (.cells #[.slice B1 m1 d1, .slice B2 m2 d2] 30) = w2 at *
  refine (HCk.out w2 HB2.out).mono ?_
  rintro e w3 ⟨rfl, hb3⟩
  have HB3 := Lib.hid (HB2.out.trans (hb3.mono HB2.out.size))
  have HG3 := Lib.hid (HG2.out.on hb3)
  clear hb3 HG2 HB2
  have q0 := HG3.out.g0
  have q1 := HG3.out.g1
  have q2 := HG3.out.g2
  have p0 := HG3.out.v0
  have p1 := HG3.out.v1
  cases cb with
  | false =>
    have HR := Lib.hid (HE0.out rfl)
    have hce := HF.out rfl
    subst hce
    go_wp2_with fail
    go_ret
    exact ⟨ret_bool HR.out.symm, HB3.out⟩
  | true =>
    have HE := Lib.hid (HE1.out rfl)
    have hce := HT.out rfl
    subst hce
    by_cases h1 : m1 = n1
    · replace HE := Lib.hid (show mb = (decide (m2 = n2) && (so && allTo (funAt g x) m2)) by rw [HE.out, decide_eq_true h1]; rfl)
      have h1' : ((m1 : Int) == (n1 : Int)) = true := beq_iff_eq.2 (by omega)
      have h1'' : ((m1 : Int) != (n1 : Int)) = false := by rw [bne, h1']; rfl
      by_cases h2 : m2 = n2
      · replace HE := Lib.hid (show mb = (so && allTo (funAt g x) m2) by rw [HE.out, decide_eq_true h2]; rfl)
        have h2' : ((m2 : Int) == (n2 : Int)) = true := beq_iff_eq.2 (by omega)
        have h2'' : ((m2 : Int) != (n2 : Int)) = false := by rw [bne, h2']; rfl
        have HH := Lib.hid (And.intro h1 h2)
        clear h1 h2
        have hcall := HSz.out w3 HB3.out
        go_wp2_with fail
        refine hcall.mono ?_
        rintro e w' ⟨rfl, rfl⟩
        cases so with
        | false =>
          have hab := HAn.out
          subst hab
          have HR := Lib.hid HE.out
          go_wp2_with fail
          go_ret
          exact ⟨ret_bool HR.out.symm, HB3.out⟩
        | true =>
          have hab := HAn.out
          subst hab
          clear hcall
          go_wp2_with fail
          clear q0 q1 q2 p0 p1
          go_loopw [39] (fun i wr => ∃ k : Nat, k ≤ m2 ∧ i = .int .i64 k ∧ allTo (funAt g x) k = true ∧ Below w3.heap.size w3 wr) (fun i _ => m2 - (intOf i).toNat)
          case atStart => exact ⟨0, by omega, rfl, rfl, Below.refl _ _⟩
          case round =>
            obtain ⟨k, hk, rfl, hok, hb⟩ := hrel
            have HO := Lib.hid hok
            have HB := Lib.hid hb
            have HBw := Lib.hid (HB3.out.trans (hb.mono HB3.out.size))
            have HG := Lib.hid (HG3.out.on hb)
            clear hok hb
            by_cases hlt : k < m2
            · have hlt2 : (k : Int) < (m2 : Int) := by omega
              have hlt3 : (k : Int) < (n2 : Int) := by have := HH.out.2; omega
              obtain ⟨f, hf⟩ : ∃ f, g.funs[k]? = some f := ⟨_, List.getElem?_eq_getElem (by omega)⟩
              obtain ⟨v, hv⟩ : ∃ v, x.funs[k]? = some v := ⟨_, List.getElem?_eq_getElem (by omega)⟩
              obtain ⟨fb, fo, rfl, hfl⟩ := lies_addr HFf.out hf
              obtain ⟨vb, vo, rfl, hvl⟩ := lies_addr HFv.out hv
              have HFit := Lib.hid (fun W hW h => fun_fit' (W := W) (gp := w.heap.size) (wp := w.heap.size + 1) (u0 := .slice A1 n1 c1) (u1 := .slice (some ⟨fb, fo, none⟩) n2 c2) (u2 := .slice A3 n3 c3) (v0 := .slice B1 m1 d1) (v1 := .slice (some ⟨vb, vo, none⟩) m2 d2) HFf.out hW hf h)
              have HVc := Lib.hid (fun W hW => funval_cells' (W := W) HFv.out hW hv)
              have HFr := Lib.hid (fun_len' HFf.out hf)
              have HA := Lib.hid (HAt.out k f v hf hv)
              have HAn := Lib.hid (HAs.out k)
              have HAz := Lib.hid (HAx.out k hlt)
              clear hf hv
              go_wp2_with fail
              refine wp_region_held_drew (S := fun W => W.cell? ⟨w.heap.size, 1, none⟩ = some (.slice (some ⟨fb, fo, none⟩) n2 c2) ∧ W.cell? ⟨w.heap.size + 1, 1, none⟩ = some (.slice (some ⟨vb, vo, none⟩) m2 d2)) (by kernel_rfl) (⟨HG.out.g1, HG.out.v1⟩) (fun hHeld => ?_)
              refine wpAnyH_take (i := 0) (oi := Oper.mk _ _ _ _ _ _) (v := ?_) rfl (by kernel_rfl) (by kernel_rfl) (by kernel_rfl) (fun _ _ _ h => h) (Or.inl ⟨by rfl, ?_⟩) (by assumption) ?_
              rotate_left
              · (intro w hSw; (try dsimp only at hSw); go_simp; try with_reducible rfl)
              try simp only [Act.put, List.setIfInBounds_toArray, List.set_cons_zero, List.set_cons_succ]
              refine wpAnyH_take (i := 1) (oi := Oper.mk _ _ _ _ _ _) (v := ?_) rfl (by kernel_rfl) (by kernel_rfl) (by kernel_rfl) (fun _ _ _ h => h) (Or.inl ⟨by rfl, ?_⟩) (by assumption) ?_
              rotate_left
              · (intro w hSw; (try dsimp only at hSw); go_simp; try with_reducible rfl)
              try simp only [Act.put, List.setIfInBounds_toArray, List.set_cons_zero, List.set_cons_succ]
              refine wpAnyH_take (i := 2) (oi := Oper.mk _ _ _ _ _ _) (v := ?_) rfl (by kernel_rfl) (by kernel_rfl) (by kernel_rfl) (fun _ _ _ h => h) (Or.inl ⟨by rfl, ?_⟩) (by assumption) ?_
              rotate_left
              · (intro w hSw; (try dsimp only at hSw); go_simp; try with_reducible rfl)
              try simp only [Act.put, List.setIfInBounds_toArray, List.set_cons_zero, List.set_cons_succ]
              refine wpAnyH_take (i := 3) (oi := Oper.mk _ _ _ _ _ _) (v := ?_) rfl (by kernel_rfl) (by kernel_rfl) (by kernel_rfl) (fun _ _ _ h => h) (Or.inl ⟨by rfl, ?_⟩) (by assumption) ?_
              rotate_left
              · (intro w hSw; (try dsimp only at hSw); go_simp; try with_reducible rfl)
              try simp only [Act.put, List.setIfInBounds_toArray, List.set_cons_zero, List.set_cons_succ]
              refine wpAnyH_take (i := 4) (oi := Oper.mk _ _ _ _ _ _) (v := ?_) rfl (by kernel_rfl) (by kernel_rfl) (by kernel_rfl) (fun _ _ _ h => h) (Or.inl ⟨by rfl, ?_⟩) (by assumption) ?_
              rotate_left
              · (intro w hSw; (try dsimp only at hSw); go_simp; try with_reducible rfl)
              try simp only [Act.put, List.setIfInBounds_toArray, List.set_cons_zero, List.set_cons_succ]
              refine wpAnyH_take (i := 5) (oi := Oper.mk _ _ _ _ _ _) (v := ?_) rfl (by kernel_rfl) (by kernel_rfl) (by kernel_rfl) (fun _ _ _ h => h) (Or.inl ⟨by rfl, ?_⟩) (by assumption) ?_
              rotate_left
              · (intro w hSw; (try dsimp only at hSw); go_simp; try with_reducible rfl)
              try simp only [Act.put, List.setIfInBounds_toArray, List.set_cons_zero, List.set_cons_succ]
              refine wpAnyH_take (i := 6) (oi := Oper.mk _ _ _ _ _ _) (v := ?_) rfl (by kernel_rfl) (by kernel_rfl) (by kernel_rfl) (fun _ _ _ h => h) (Or.inl ⟨by rfl, ?_⟩) (by assumption) ?_
              rotate_left
              · (intro w hSw; (try dsimp only at hSw); go_simp; try with_reducible rfl)
              try simp only [Act.put, List.setIfInBounds_toArray, List.set_cons_zero, List.set_cons_succ]
              refine wpAnyH_take (i := 7) (oi := Oper.mk _ _ _ _ _ _) (v := ?_) rfl (by kernel_rfl) (by kernel_rfl) (by kernel_rfl) (fun _ _ _ h => h) (Or.inl ⟨by rfl, ?_⟩) (by assumption) ?_
              rotate_left
              · (intro w hSw; (try dsimp only at hSw); go_simp; try with_reducible rfl)
              try simp only [Act.put, List.setIfInBounds_toArray, List.set_cons_zero, List.set_cons_succ]
              refine wpAnyH_take (i := 8) (oi := Oper.mk _ _ _ _ _ _) (v := ?_) rfl (by kernel_rfl) (by kernel_rfl) (by kernel_rfl) (fun _ _ _ h => h) (Or.inl ⟨by rfl, ?_⟩) (by assumption) ?_
              rotate_left
              · (intro w hSw; (try dsimp only at hSw); go_simp; try with_reducible rfl)
              try simp only [Act.put, List.setIfInBounds_toArray, List.set_cons_zero, List.set_cons_succ]
              refine wpAnyH_take (i := 9) (oi := Oper.mk _ _ _ _ _ _) (v := ?_) rfl (by kernel_rfl) (by kernel_rfl) (by kernel_rfl) (fun _ _ _ h => h) (Or.inl ⟨by rfl, ?_⟩) (by assumption) ?_
              rotate_left
              · (intro w hSw; (try dsimp only at hSw); go_simp; try with_reducible rfl)
              try simp only [Act.put, List.setIfInBounds_toArray, List.set_cons_zero, List.set_cons_succ]
              refine wpAnyH_done (by kernel_rfl) ?_ _
              have HB4 := Lib.hid (HB.out.trans ((Below.refl wr.heap.size wr).drew.mono HB.out.size))
              have HBw4 := Lib.hid (HBw.out.trans ((Below.refl wr.heap.size wr).drew.mono HBw.out.size))
              have HG4 := Lib.hid (HG.out.on (Below.refl wr.heap.size wr).drew)
              clear HB HBw HG hHeld
              generalize hwd : wr.drew = wd at *
              clear hwd
              obtain ⟨hvl2, Ar, cr, e0, e1, hrl, hels, hrb⟩ := HVc.out wd HBw4.out
              have HRl := Lib.hid hrl
              have HEl := Lib.hid hels
              have HRc := Lib.hid (rows_any hrl (by omega) e0 (Nat.lt_of_lt_of_le hvl2 HBw4.out.size))
              have HE01 := Lib.hid (And.intro e0 e1)
              clear hrl hels e0 e1
              go_wp2_with fail
              refine HRc.out.mono ?_
              rintro e w4 ⟨bm, rfl, _, hb4, _⟩
              have HB5 := Lib.hid (HB4.out.trans (hb4.mono HB4.out.size))
              have HBw5 := Lib.hid (HBw4.out.trans (hb4.mono HBw4.out.size))
              have HG5 := Lib.hid (HG4.out.on hb4)
              have HRl5 := Lib.hid (HRl.out.on RowR.lasts hb4)
              have HE5 := Lib.hid (And.intro (((bcell hb4).1 vb _ (Nat.lt_of_lt_of_le hvl2 HBw4.out.size)).trans HE01.out.1) (((bcell hb4).1 vb _ (Nat.lt_of_lt_of_le hvl2 HBw4.out.size)).trans HE01.out.2))
              clear hb4 HB4 HBw4 HG4 HRl HE01 HRc
              generalize hob : onceB v.rows = ob at *
              clear hob
              have HF5 := Lib.hid (HFit.out w4 HBw5.out HG5.out)
              cases ob with
              | false =>
                have HR := Lib.hid (show mb = false by rw [HE.out, HAz.out (by rw [HA.out]; rfl)]; rfl)
                have HBd := Lib.hid (HBw5.out.trans ((Below.refl w4.heap.size w4).drew.mono HBw5.out.size))
                go_wp2_with fail
                refine wp_region_held_drew (S := fun W => True) (by kernel_rfl) (trivial) (fun hHeld => ?_)
                refine wpAnyH_take (i := 0) (oi := Oper.mk _ _ _ _ _ _) (v := ?_) rfl (by kernel_rfl) (by kernel_rfl) (by kernel_rfl) (fun _ _ _ h => h) (Or.inl ⟨by rfl, ?_⟩) (by assumption) ?_
                rotate_left
                · (intro w hSw; (try dsimp only at hSw); go_simp; try with_reducible rfl)
                try simp only [Act.put, List.setIfInBounds_toArray, List.set_cons_zero, List.set_cons_succ]
                refine wpAnyH_take (i := 1) (oi := Oper.mk _ _ _ _ _ _) (v := ?_) rfl (by kernel_rfl) (by kernel_rfl) (by kernel_rfl) (fun _ _ _ h => h) (Or.inl ⟨by rfl, ?_⟩) (by assumption) ?_
                rotate_left
                · (intro w hSw; (try dsimp only at hSw); go_simp; try with_reducible rfl)
                try simp only [Act.put, List.setIfInBounds_toArray, List.set_cons_zero, List.set_cons_succ]
                refine wpAnyH_take (i := 2) (oi := Oper.mk _ _ _ _ _ _) (v := ?_) rfl (by kernel_rfl) (by kernel_rfl) (by kernel_rfl) (fun _ _ _ h => h) (Or.inl ⟨by rfl, ?_⟩) (by assumption) ?_
                rotate_left
                · (intro w hSw; (try dsimp only at hSw); go_simp; try with_reducible rfl)
                try simp only [Act.put, List.setIfInBounds_toArray, List.set_cons_zero, List.set_cons_succ]
                refine wpAnyH_take (i := 3) (oi := Oper.mk _ _ _ _ _ _) (v := undef) rfl (by kernel_rfl) (by kernel_rfl) (by kernel_rfl) (fun _ _ _ h => h) (Or.inr ⟨by rfl, rfl⟩) (by assumption) ?_
                try simp only [Act.put, List.setIfInBounds_toArray, List.set_cons_zero, List.set_cons_succ]
                refine wpAnyH_take (i := 4) (oi := Oper.mk _ _ _ _ _ _) (v := undef) rfl (by kernel_rfl) (by kernel_rfl) (by kernel_rfl) (fun _ _ _ h => h) (Or.inr ⟨by rfl, rfl⟩) (by assumption) ?_
                try simp only [Act.put, List.setIfInBounds_toArray, List.set_cons_zero, List.set_cons_succ]
                refine wpAnyH_take (i := 5) (oi := Oper.mk _ _ _ _ _ _) (v := undef) rfl (by kernel_rfl) (by kernel_rfl) (by kernel_rfl) (fun _ _ _ h => h) (Or.inr ⟨by rfl, rfl⟩) (by assumption) ?_
                try simp only [Act.put, List.setIfInBounds_toArray, List.set_cons_zero, List.set_cons_succ]
                refine wpAnyH_take (i := 6) (oi := Oper.mk _ _ _ _ _ _) (v := undef) rfl (by kernel_rfl) (by kernel_rfl) (by kernel_rfl) (fun _ _ _ h => h) (Or.inr ⟨by rfl, rfl⟩) (by assumption) ?_
                try simp only [Act.put, List.setIfInBounds_toArray, List.set_cons_zero, List.set_cons_succ]
                refine wpAnyH_take (i := 7) (oi := Oper.mk _ _ _ _ _ _) (v := undef) rfl (by kernel_rfl) (by kernel_rfl) (by kernel_rfl) (fun _ _ _ h => h) (Or.inr ⟨by rfl, rfl⟩) (by assumption) ?_
                try simp only [Act.put, List.setIfInBounds_toArray, List.set_cons_zero, List.set_cons_succ]
                refine wpAnyH_take (i := 8) (oi := Oper.mk _ _ _ _ _ _) (v := undef) rfl (by kernel_rfl) (by kernel_rfl) (by kernel_rfl) (fun _ _ _ h => h) (Or.inr ⟨by rfl, rfl⟩) (by assumption) ?_
                try simp only [Act.put, List.setIfInBounds_toArray, List.set_cons_zero, List.set_cons_succ]
                refine wpAnyH_take (i := 9) (oi := Oper.mk _ _ _ _ _ _) (v := ?_) rfl (by kernel_rfl) (by kernel_rfl) (by kernel_rfl) (fun _ _ _ h => h) (Or.inl ⟨by rfl, ?_⟩) (by assumption) ?_
                rotate_left
                · (intro w hSw; (try dsimp only at hSw); go_simp; try with_reducible rfl)
                try simp only [Act.put, List.setIfInBounds_toArray, List.set_cons_zero, List.set_cons_succ]
                refine wpAnyH_take (i := 10) (oi := Oper.mk _ _ _ _ _ _) (v := ?_) rfl (by kernel_rfl) (by kernel_rfl) (by kernel_rfl) (fun _ _ _ h => h) (Or.inl ⟨by rfl, ?_⟩) (by assumption) ?_
                rotate_left
                · (intro w hSw; (try dsimp only at hSw); go_simp; try with_reducible rfl)
                try simp only [Act.put, List.setIfInBounds_toArray, List.set_cons_zero, List.set_cons_succ]
                refine wpAnyH_take (i := 11) (oi := Oper.mk _ _ _ _ _ _) (v := undef) rfl (by kernel_rfl) (by kernel_rfl) (by kernel_rfl) (fun _ _ _ h => h) (Or.inr ⟨by rfl, rfl⟩) (by assumption) ?_
                try simp only [Act.put, List.setIfInBounds_toArray, List.set_cons_zero, List.set_cons_succ]
                refine wpAnyH_take (i := 12) (oi := Oper.mk _ _ _ _ _ _) (v := undef) rfl (by kernel_rfl) (by kernel_rfl) (by kernel_rfl) (fun _ _ _ h => h) (Or.inr ⟨by rfl, rfl⟩) (by assumption) ?_
                try simp only [Act.put, List.setIfInBounds_toArray, List.set_cons_zero, List.set_cons_succ]
                refine wpAnyH_take (i := 13) (oi := Oper.mk _ _ _ _ _ _) (v := undef) rfl (by kernel_rfl) (by kernel_rfl) (by kernel_rfl) (fun _ _ _ h => h) (Or.inr ⟨by rfl, rfl⟩) (by assumption) ?_
                try simp only [Act.put, List.setIfInBounds_toArray, List.set_cons_zero, List.set_cons_succ]
                refine wpAnyH_take (i := 14) (oi := Oper.mk _ _ _ _ _ _) (v := undef) rfl (by kernel_rfl) (by kernel_rfl) (by kernel_rfl) (fun _ _ _ h => h) (Or.inr ⟨by rfl, rfl⟩) (by assumption) ?_
                try simp only [Act.put, List.setIfInBounds_toArray, List.set_cons_zero, List.set_cons_succ]
                refine wpAnyH_take (i := 15) (oi := Oper.mk _ _ _ _ _ _) (v := undef) rfl (by kernel_rfl) (by kernel_rfl) (by kernel_rfl) (fun _ _ _ h => h) (Or.inr ⟨by rfl, rfl⟩) (by assumption) ?_
                try simp only [Act.put, List.setIfInBounds_toArray, List.set_cons_zero, List.set_cons_succ]
                refine wpAnyH_take (i := 16) (oi := Oper.mk _ _ _ _ _ _) (v := undef) rfl (by kernel_rfl) (by kernel_rfl) (by kernel_rfl) (fun _ _ _ h => h) (Or.inr ⟨by rfl, rfl⟩) (by assumption) ?_
                try simp only [Act.put, List.setIfInBounds_toArray, List.set_cons_zero, List.set_cons_succ]
                refine wpAnyH_take (i := 17) (oi := Oper.mk _ _ _ _ _ _) (v := undef) rfl (by kernel_rfl) (by kernel_rfl) (by kernel_rfl) (fun _ _ _ h => h) (Or.inr ⟨by rfl, rfl⟩) (by assumption) ?_
                try simp only [Act.put, List.setIfInBounds_toArray, List.set_cons_zero, List.set_cons_succ]
                refine wpAnyH_take (i := 18) (oi := Oper.mk _ _ _ _ _ _) (v := undef) rfl (by kernel_rfl) (by kernel_rfl) (by kernel_rfl) (fun _ _ _ h => h) (Or.inr ⟨by rfl, rfl⟩) (by assumption) ?_
                try simp only [Act.put, List.setIfInBounds_toArray, List.set_cons_zero, List.set_cons_succ]
                refine wpAnyH_take (i := 19) (oi := Oper.mk _ _ _ _ _ _) (v := undef) rfl (by kernel_rfl) (by kernel_rfl) (by kernel_rfl) (fun _ _ _ h => h) (Or.inr ⟨by rfl, rfl⟩) (by assumption) ?_
                try simp only [Act.put, List.setIfInBounds_toArray, List.set_cons_zero, List.set_cons_succ]
                refine wpAnyH_take (i := 20) (oi := Oper.mk _ _ _ _ _ _) (v := undef) rfl (by kernel_rfl) (by kernel_rfl) (by kernel_rfl) (fun _ _ _ h => h) (Or.inr ⟨by rfl, rfl⟩) (by assumption) ?_
                try simp only [Act.put, List.setIfInBounds_toArray, List.set_cons_zero, List.set_cons_succ]
                refine wpAnyH_take (i := 21) (oi := Oper.mk _ _ _ _ _ _) (v := undef) rfl (by kernel_rfl) (by kernel_rfl) (by kernel_rfl) (fun _ _ _ h => h) (Or.inr ⟨by rfl, rfl⟩) (by assumption) ?_
                try simp only [Act.put, List.setIfInBounds_toArray, List.set_cons_zero, List.set_cons_succ]
                refine wpAnyH_take (i := 22) (oi := Oper.mk _ _ _ _ _ _) (v := undef) rfl (by kernel_rfl) (by kernel_rfl) (by kernel_rfl) (fun _ _ _ h => h) (Or.inr ⟨by rfl, rfl⟩) (by assumption) ?_
                try simp only [Act.put, List.setIfInBounds_toArray, List.set_cons_zero, List.set_cons_succ]
                refine wpAnyH_take (i := 23) (oi := Oper.mk _ _ _ _ _ _) (v := ?_) rfl (by kernel_rfl) (by kernel_rfl) (by kernel_rfl) (fun _ _ _ h => h) (Or.inl ⟨by rfl, ?_⟩) (by assumption) ?_
                rotate_left
                · (intro w hSw; (try dsimp only at hSw); go_simp; try with_reducible rfl)
                try simp only [Act.put, List.setIfInBounds_toArray, List.set_cons_zero, List.set_cons_succ]
                refine wpAnyH_done (by kernel_rfl) ?_ _
                go_wp2_with fail
                go_ret
                exact ⟨ret_bool HR.out.symm, HBd.out⟩
              | true =>
                by_cases h400 : (400 : Int) < (v.rows.length : Int)
                · have h400' := decide_eq_true h400
                  have HR := Lib.hid (show mb = false by rw [HE.out, HAz.out (by rw [HA.out, decide_eq_false (show ¬ v.rows.length ≤ 400 by omega)]; rfl)]; rfl)
                  have HBd := Lib.hid (HBw5.out.trans ((Below.refl w4.heap.size w4).drew.mono HBw5.out.size))
                  go_wp2_with fail
                  refine wp_region_held_drew (S := fun W => W.cell? ⟨vb, vo + k * 2, none⟩ = some (.slice Ar v.rows.length cr)) (by kernel_rfl) (HE5.out.1) (fun hHeld => ?_)
                  refine wpAnyH_take (i := 0) (oi := Oper.mk _ _ _ _ _ _) (v := ?_) rfl (by kernel_rfl) (by kernel_rfl) (by kernel_rfl) (fun _ _ _ h => h) (Or.inl ⟨by rfl, ?_⟩) (by assumption) ?_
                  rotate_left
                  · (intro w hSw; (try dsimp only at hSw); go_simp; try with_reducible rfl)
                  try simp only [Act.put, List.setIfInBounds_toArray, List.set_cons_zero, List.set_cons_succ]
                  refine wpAnyH_take (i := 1) (oi := Oper.mk _ _ _ _ _ _) (v := ?_) rfl (by kernel_rfl) (by kernel_rfl) (by kernel_rfl) (fun _ _ _ h => h) (Or.inl ⟨by rfl, ?_⟩) (by assumption) ?_
                  rotate_left
                  · (intro w hSw; (try dsimp only at hSw); go_simp; try with_reducible rfl)
                  try simp only [Act.put, List.setIfInBounds_toArray, List.set_cons_zero, List.set_cons_succ]
                  refine wpAnyH_take (i := 2) (oi := Oper.mk _ _ _ _ _ _) (v := ?_) rfl (by kernel_rfl) (by kernel_rfl) (by kernel_rfl) (fun _ _ _ h => h) (Or.inl ⟨by rfl, ?_⟩) (by assumption) ?_
                  rotate_left
                  · (intro w hSw; (try dsimp only at hSw); go_simp; try with_reducible rfl)
                  try simp only [Act.put, List.setIfInBounds_toArray, List.set_cons_zero, List.set_cons_succ]
                  refine wpAnyH_take (i := 3) (oi := Oper.mk _ _ _ _ _ _) (v := ?_) rfl (by kernel_rfl) (by kernel_rfl) (by kernel_rfl) (fun _ _ _ h => h) (Or.inl ⟨by rfl, ?_⟩) (by assumption) ?_
                  rotate_left
                  · (intro w hSw; (try dsimp only at hSw); go_simp; try with_reducible rfl)
                  try simp only [Act.put, List.setIfInBounds_toArray, List.set_cons_zero, List.set_cons_succ]
                  refine wpAnyH_take (i := 4) (oi := Oper.mk _ _ _ _ _ _) (v := ?_) rfl (by kernel_rfl) (by kernel_rfl) (by kernel_rfl) (fun _ _ _ h => h) (Or.inl ⟨by rfl, ?_⟩) (by assumption) ?_
                  rotate_left
                  · (intro w hSw; (try dsimp only at hSw); go_simp; try with_reducible rfl)
                  try simp only [Act.put, List.setIfInBounds_toArray, List.set_cons_zero, List.set_cons_succ]
                  refine wpAnyH_take (i := 5) (oi := Oper.mk _ _ _ _ _ _) (v := ?_) rfl (by kernel_rfl) (by kernel_rfl) (by kernel_rfl) (fun _ _ _ h => h) (Or.inl ⟨by rfl, ?_⟩) (by assumption) ?_
                  rotate_left
                  · (intro w hSw; (try dsimp only at hSw); go_simp; try with_reducible rfl)
                  try simp only [Act.put, List.setIfInBounds_toArray, List.set_cons_zero, List.set_cons_succ]
                  refine wpAnyH_take (i := 6) (oi := Oper.mk _ _ _ _ _ _) (v := ?_) rfl (by kernel_rfl) (by kernel_rfl) (by kernel_rfl) (fun _ _ _ h => h) (Or.inl ⟨by rfl, ?_⟩) (by assumption) ?_
                  rotate_left
                  · (intro w hSw; (try dsimp only at hSw); go_simp; try with_reducible rfl)
                  try simp only [Act.put, List.setIfInBounds_toArray, List.set_cons_zero, List.set_cons_succ]
                  refine wpAnyH_take (i := 7) (oi := Oper.mk _ _ _ _ _ _) (v := ?_) rfl (by kernel_rfl) (by kernel_rfl) (by kernel_rfl) (fun _ _ _ h => h) (Or.inl ⟨by rfl, ?_⟩) (by assumption) ?_
                  rotate_left
                  · (intro w hSw; (try dsimp only at hSw); go_simp; try with_reducible rfl)
                  try simp only [Act.put, List.setIfInBounds_toArray, List.set_cons_zero, List.set_cons_succ]
                  refine wpAnyH_take (i := 8) (oi := Oper.mk _ _ _ _ _ _) (v := ?_) rfl (by kernel_rfl) (by kernel_rfl) (by kernel_rfl) (fun _ _ _ h => h) (Or.inl ⟨by rfl, ?_⟩) (by assumption) ?_
                  rotate_left
                  · (intro w hSw; (try dsimp only at hSw); go_simp; try with_reducible rfl)
                  try simp only [Act.put, List.setIfInBounds_toArray, List.set_cons_zero, List.set_cons_succ]
                  refine wpAnyH_take (i := 9) (oi := Oper.mk _ _ _ _ _ _) (v := ?_) rfl (by kernel_rfl) (by kernel_rfl) (by kernel_rfl) (fun _ _ _ h => h) (Or.inl ⟨by rfl, ?_⟩) (by assumption) ?_
                  rotate_left
                  · (intro w hSw; (try dsimp only at hSw); go_simp; try with_reducible rfl)
                  try simp only [Act.put, List.setIfInBounds_toArray, List.set_cons_zero, List.set_cons_succ]
                  refine wpAnyH_take (i := 10) (oi := Oper.mk _ _ _ _ _ _) (v := ?_) rfl (by kernel_rfl) (by kernel_rfl) (by kernel_rfl) (fun _ _ _ h => h) (Or.inl ⟨by rfl, ?_⟩) (by assumption) ?_
                  rotate_left
                  · (intro w hSw; (try dsimp only at hSw); go_simp; try with_reducible rfl)
                  try simp only [Act.put, List.setIfInBounds_toArray, List.set_cons_zero, List.set_cons_succ]
                  refine wpAnyH_take (i := 11) (oi := Oper.mk _ _ _ _ _ _) (v := undef) rfl (by kernel_rfl) (by kernel_rfl) (by kernel_rfl) (fun _ _ _ h => h) (Or.inr ⟨by rfl, rfl⟩) (by assumption) ?_
                  try simp only [Act.put, List.setIfInBounds_toArray, List.set_cons_zero, List.set_cons_succ]
                  refine wpAnyH_take (i := 12) (oi := Oper.mk _ _ _ _ _ _) (v := undef) rfl (by kernel_rfl) (by kernel_rfl) (by kernel_rfl) (fun _ _ _ h => h) (Or.inr ⟨by rfl, rfl⟩) (by assumption) ?_
                  try simp only [Act.put, List.setIfInBounds_toArray, List.set_cons_zero, List.set_cons_succ]
                  refine wpAnyH_take (i := 13) (oi := Oper.mk _ _ _ _ _ _) (v := undef) rfl (by kernel_rfl) (by kernel_rfl) (by kernel_rfl) (fun _ _ _ h => h) (Or.inr ⟨by rfl, rfl⟩) (by assumption) ?_
                  try simp only [Act.put, List.setIfInBounds_toArray, List.set_cons_zero, List.set_cons_succ]
                  refine wpAnyH_take (i := 14) (oi := Oper.mk _ _ _ _ _ _) (v := undef) rfl (by kernel_rfl) (by kernel_rfl) (by kernel_rfl) (fun _ _ _ h => h) (Or.inr ⟨by rfl, rfl⟩) (by assumption) ?_
                  try simp only [Act.put, List.setIfInBounds_toArray, List.set_cons_zero, List.set_cons_succ]
                  refine wpAnyH_take (i := 15) (oi := Oper.mk _ _ _ _ _ _) (v := undef) rfl (by kernel_rfl) (by kernel_rfl) (by kernel_rfl) (fun _ _ _ h => h) (Or.inr ⟨by rfl, rfl⟩) (by assumption) ?_
                  try simp only [Act.put, List.setIfInBounds_toArray, List.set_cons_zero, List.set_cons_succ]
                  refine wpAnyH_take (i := 16) (oi := Oper.mk _ _ _ _ _ _) (v := undef) rfl (by kernel_rfl) (by kernel_rfl) (by kernel_rfl) (fun _ _ _ h => h) (Or.inr ⟨by rfl, rfl⟩) (by assumption) ?_
                  try simp only [Act.put, List.setIfInBounds_toArray, List.set_cons_zero, List.set_cons_succ]
                  refine wpAnyH_take (i := 17) (oi := Oper.mk _ _ _ _ _ _) (v := undef) rfl (by kernel_rfl) (by kernel_rfl) (by kernel_rfl) (fun _ _ _ h => h) (Or.inr ⟨by rfl, rfl⟩) (by assumption) ?_
                  try simp only [Act.put, List.setIfInBounds_toArray, List.set_cons_zero, List.set_cons_succ]
                  refine wpAnyH_take (i := 18) (oi := Oper.mk _ _ _ _ _ _) (v := undef) rfl (by kernel_rfl) (by kernel_rfl) (by kernel_rfl) (fun _ _ _ h => h) (Or.inr ⟨by rfl, rfl⟩) (by assumption) ?_
                  try simp only [Act.put, List.setIfInBounds_toArray, List.set_cons_zero, List.set_cons_succ]
                  refine wpAnyH_take (i := 19) (oi := Oper.mk _ _ _ _ _ _) (v := undef) rfl (by kernel_rfl) (by kernel_rfl) (by kernel_rfl) (fun _ _ _ h => h) (Or.inr ⟨by rfl, rfl⟩) (by assumption) ?_
                  try simp only [Act.put, List.setIfInBounds_toArray, List.set_cons_zero, List.set_cons_succ]
                  refine wpAnyH_take (i := 20) (oi := Oper.mk _ _ _ _ _ _) (v := undef) rfl (by kernel_rfl) (by kernel_rfl) (by kernel_rfl) (fun _ _ _ h => h) (Or.inr ⟨by rfl, rfl⟩) (by assumption) ?_
                  try simp only [Act.put, List.setIfInBounds_toArray, List.set_cons_zero, List.set_cons_succ]
                  refine wpAnyH_take (i := 21) (oi := Oper.mk _ _ _ _ _ _) (v := undef) rfl (by kernel_rfl) (by kernel_rfl) (by kernel_rfl) (fun _ _ _ h => h) (Or.inr ⟨by rfl, rfl⟩) (by assumption) ?_
                  try simp only [Act.put, List.setIfInBounds_toArray, List.set_cons_zero, List.set_cons_succ]
                  refine wpAnyH_take (i := 22) (oi := Oper.mk _ _ _ _ _ _) (v := undef) rfl (by kernel_rfl) (by kernel_rfl) (by kernel_rfl) (fun _ _ _ h => h) (Or.inr ⟨by rfl, rfl⟩) (by assumption) ?_
                  try simp only [Act.put, List.setIfInBounds_toArray, List.set_cons_zero, List.set_cons_succ]
                  refine wpAnyH_take (i := 23) (oi := Oper.mk _ _ _ _ _ _) (v := ?_) rfl (by kernel_rfl) (by kernel_rfl) (by kernel_rfl) (fun _ _ _ h => h) (Or.inl ⟨by rfl, ?_⟩) (by assumption) ?_
                  rotate_left
                  · (intro w hSw; (try dsimp only at hSw); go_simp; try with_reducible rfl)
                  try simp only [Act.put, List.setIfInBounds_toArray, List.set_cons_zero, List.set_cons_succ]
                  refine wpAnyH_done (by kernel_rfl) ?_ _
                  go_wp2_with fail
                  go_ret
                  exact ⟨ret_bool HR.out.symm, HBd.out⟩
                · have h400' := decide_eq_false h400
                  replace HA := Lib.hid (show funAt g x k = (isB n1 x.sizes f.res v.els && v.rows.all (rowOk n1 x.sizes f)) by rw [HA.out, decide_eq_true (show v.rows.length ≤ 400 by omega)]; rfl)
                  have HIe := Lib.hid (fun W hW => HIs.out W hW f.res v.els HEl.out)
                  go_wp2_with fail
                  refine wp_region_held_drew (S := fun W => W.cell? ⟨w.heap.size, 0, none⟩ = some (.slice A1 n1 c1) ∧ W.cell? ⟨w.heap.size, 1, none⟩ = some (.slice (some ⟨fb, fo, none⟩) n2 c2) ∧ W.cell? ⟨w.heap.size, 2, none⟩ = some (.slice A3 n3 c3) ∧ W.cell? ⟨w.heap.size + 1, 0, none⟩ = some (.slice B1 m1 d1) ∧ W.cell? ⟨w.heap.size + 1, 1, none⟩ = some (.slice (some ⟨vb, vo, none⟩) m2 d2) ∧ W.cell? ⟨fb, fo + k * 6 + 5, none⟩ = some (.int .i64 f.res) ∧ W.cell? ⟨vb, vo + k * 2, none⟩ = some (.slice Ar v.rows.length cr) ∧ W.cell? ⟨vb, vo + k * 2 + 1, none⟩ = some (.int .i64 v.els)) (by kernel_rfl) (⟨HG5.out.g0, HG5.out.g1, HG5.out.g2, HG5.out.v0, HG5.out.v1, HF5.out.f5, HE5.out.1, HE5.out.2⟩) (fun hHeld => ?_)
                  refine wpAnyH_take (i := 0) (oi := Oper.mk _ _ _ _ _ _) (v := ?_) rfl (by kernel_rfl) (by kernel_rfl) (by kernel_rfl) (fun _ _ _ h => h) (Or.inl ⟨by rfl, ?_⟩) (by assumption) ?_
                  rotate_left
                  · (intro w hSw; (try dsimp only at hSw); go_simp; try with_reducible rfl)
                  try simp only [Act.put, List.setIfInBounds_toArray, List.set_cons_zero, List.set_cons_succ]
                  refine wpAnyH_take (i := 1) (oi := Oper.mk _ _ _ _ _ _) (v := ?_) rfl (by kernel_rfl) (by kernel_rfl) (by kernel_rfl) (fun _ _ _ h => h) (Or.inl ⟨by rfl, ?_⟩) (by assumption) ?_
                  rotate_left
                  · (intro w hSw; (try dsimp only at hSw); go_simp; try with_reducible rfl)
                  try simp only [Act.put, List.setIfInBounds_toArray, List.set_cons_zero, List.set_cons_succ]
                  refine wpAnyH_take (i := 2) (oi := Oper.mk _ _ _ _ _ _) (v := ?_) rfl (by kernel_rfl) (by kernel_rfl) (by kernel_rfl) (fun _ _ _ h => h) (Or.inl ⟨by rfl, ?_⟩) (by assumption) ?_
                  rotate_left
                  · (intro w hSw; (try dsimp only at hSw); go_simp; try with_reducible rfl)
                  try simp only [Act.put, List.setIfInBounds_toArray, List.set_cons_zero, List.set_cons_succ]
                  refine wpAnyH_take (i := 3) (oi := Oper.mk _ _ _ _ _ _) (v := ?_) rfl (by kernel_rfl) (by kernel_rfl) (by kernel_rfl) (fun _ _ _ h => h) (Or.inl ⟨by rfl, ?_⟩) (by assumption) ?_
                  rotate_left
                  · (intro w hSw; (try dsimp only at hSw); go_simp; try with_reducible rfl)
                  try simp only [Act.put, List.setIfInBounds_toArray, List.set_cons_zero, List.set_cons_succ]
                  refine wpAnyH_take (i := 4) (oi := Oper.mk _ _ _ _ _ _) (v := ?_) rfl (by kernel_rfl) (by kernel_rfl) (by kernel_rfl) (fun _ _ _ h => h) (Or.inl ⟨by rfl, ?_⟩) (by assumption) ?_
                  rotate_left
                  · (intro w hSw; (try dsimp only at hSw); go_simp; try with_reducible rfl)
                  try simp only [Act.put, List.setIfInBounds_toArray, List.set_cons_zero, List.set_cons_succ]
                  refine wpAnyH_take (i := 5) (oi := Oper.mk _ _ _ _ _ _) (v := ?_) rfl (by kernel_rfl) (by kernel_rfl) (by kernel_rfl) (fun _ _ _ h => h) (Or.inl ⟨by rfl, ?_⟩) (by assumption) ?_
                  rotate_left
                  · (intro w hSw; (try dsimp only at hSw); go_simp; try with_reducible rfl)
                  try simp only [Act.put, List.setIfInBounds_toArray, List.set_cons_zero, List.set_cons_succ]
                  refine wpAnyH_take (i := 6) (oi := Oper.mk _ _ _ _ _ _) (v := ?_) rfl (by kernel_rfl) (by kernel_rfl) (by kernel_rfl) (fun _ _ _ h => h) (Or.inl ⟨by rfl, ?_⟩) (by assumption) ?_
                  rotate_left
                  · (intro w hSw; (try dsimp only at hSw); go_simp; try with_reducible rfl)
                  try simp only [Act.put, List.setIfInBounds_toArray, List.set_cons_zero, List.set_cons_succ]
                  refine wpAnyH_take (i := 7) (oi := Oper.mk _ _ _ _ _ _) (v := ?_) rfl (by kernel_rfl) (by kernel_rfl) (by kernel_rfl) (fun _ _ _ h => h) (Or.inl ⟨by rfl, ?_⟩) (by assumption) ?_
                  rotate_left
                  · (intro w hSw; (try dsimp only at hSw); go_simp; try with_reducible rfl)
                  try simp only [Act.put, List.setIfInBounds_toArray, List.set_cons_zero, List.set_cons_succ]
                  refine wpAnyH_take (i := 8) (oi := Oper.mk _ _ _ _ _ _) (v := ?_) rfl (by kernel_rfl) (by kernel_rfl) (by kernel_rfl) (fun _ _ _ h => h) (Or.inl ⟨by rfl, ?_⟩) (by assumption) ?_
                  rotate_left
                  · (intro w hSw; (try dsimp only at hSw); go_simp; try with_reducible rfl)
                  try simp only [Act.put, List.setIfInBounds_toArray, List.set_cons_zero, List.set_cons_succ]
                  refine wpAnyH_take (i := 9) (oi := Oper.mk _ _ _ _ _ _) (v := ?_) rfl (by kernel_rfl) (by kernel_rfl) (by kernel_rfl) (fun _ _ _ h => h) (Or.inl ⟨by rfl, ?_⟩) (by assumption) ?_
                  rotate_left
                  · (intro w hSw; (try dsimp only at hSw); go_simp; try with_reducible rfl)
                  try simp only [Act.put, List.setIfInBounds_toArray, List.set_cons_zero, List.set_cons_succ]
                  refine wpAnyH_take (i := 10) (oi := Oper.mk _ _ _ _ _ _) (v := ?_) rfl (by kernel_rfl) (by kernel_rfl) (by kernel_rfl) (fun _ _ _ h => h) (Or.inl ⟨by rfl, ?_⟩) (by assumption) ?_
                  rotate_left
                  · (intro w hSw; (try dsimp only at hSw); go_simp; try with_reducible rfl)
                  try simp only [Act.put, List.setIfInBounds_toArray, List.set_cons_zero, List.set_cons_succ]
                  refine wpAnyH_take (i := 11) (oi := Oper.mk _ _ _ _ _ _) (v := ?_) rfl (by kernel_rfl) (by kernel_rfl) (by kernel_rfl) (fun _ _ _ h => h) (Or.inl ⟨by rfl, ?_⟩) (by assumption) ?_
                  rotate_left
                  · (intro w hSw; (try dsimp only at hSw); go_simp; try with_reducible rfl)
                  try simp only [Act.put, List.setIfInBounds_toArray, List.set_cons_zero, List.set_cons_succ]
                  refine wpAnyH_take (i := 12) (oi := Oper.mk _ _ _ _ _ _) (v := ?_) rfl (by kernel_rfl) (by kernel_rfl) (by kernel_rfl) (fun _ _ _ h => h) (Or.inl ⟨by rfl, ?_⟩) (by assumption) ?_
                  rotate_left
                  · (intro w hSw; (try dsimp only at hSw); go_simp; try with_reducible rfl)
                  try simp only [Act.put, List.setIfInBounds_toArray, List.set_cons_zero, List.set_cons_succ]
                  refine wpAnyH_take (i := 13) (oi := Oper.mk _ _ _ _ _ _) (v := ?_) rfl (by kernel_rfl) (by kernel_rfl) (by kernel_rfl) (fun _ _ _ h => h) (Or.inl ⟨by rfl, ?_⟩) (by assumption) ?_
                  rotate_left
                  · (intro w hSw; (try dsimp only at hSw); go_simp; try with_reducible rfl)
                  try simp only [Act.put, List.setIfInBounds_toArray, List.set_cons_zero, List.set_cons_succ]
                  refine wpAnyH_take (i := 14) (oi := Oper.mk _ _ _ _ _ _) (v := ?_) rfl (by kernel_rfl) (by kernel_rfl) (by kernel_rfl) (fun _ _ _ h => h) (Or.inl ⟨by rfl, ?_⟩) (by assumption) ?_
                  rotate_left
                  · (intro w hSw; (try dsimp only at hSw); go_simp; try with_reducible rfl)
                  try simp only [Act.put, List.setIfInBounds_toArray, List.set_cons_zero, List.set_cons_succ]
                  refine wpAnyH_take (i := 15) (oi := Oper.mk _ _ _ _ _ _) (v := ?_) rfl (by kernel_rfl) (by kernel_rfl) (by kernel_rfl) (fun _ _ _ h => h) (Or.inl ⟨by rfl, ?_⟩) (by assumption) ?_
                  rotate_left
                  · (intro w hSw; (try dsimp only at hSw); go_simp; try with_reducible rfl)
                  try simp only [Act.put, List.setIfInBounds_toArray, List.set_cons_zero, List.set_cons_succ]
                  refine wpAnyH_take (i := 16) (oi := Oper.mk _ _ _ _ _ _) (v := ?_) rfl (by kernel_rfl) (by kernel_rfl) (by kernel_rfl) (fun _ _ _ h => h) (Or.inl ⟨by rfl, ?_⟩) (by assumption) ?_
                  rotate_left
                  · (intro w hSw; (try dsimp only at hSw); go_simp; try with_reducible rfl)
                  try simp only [Act.put, List.setIfInBounds_toArray, List.set_cons_zero, List.set_cons_succ]
                  refine wpAnyH_take (i := 17) (oi := Oper.mk _ _ _ _ _ _) (v := ?_) rfl (by kernel_rfl) (by kernel_rfl) (by kernel_rfl) (fun _ _ _ h => h) (Or.inl ⟨by rfl, ?_⟩) (by assumption) ?_
                  rotate_left
                  · (intro w hSw; (try dsimp only at hSw); go_simp; try with_reducible rfl)
                  try simp only [Act.put, List.setIfInBounds_toArray, List.set_cons_zero, List.set_cons_succ]
                  refine wpAnyH_take (i := 18) (oi := Oper.mk _ _ _ _ _ _) (v := ?_) rfl (by kernel_rfl) (by kernel_rfl) (by kernel_rfl) (fun _ _ _ h => h) (Or.inl ⟨by rfl, ?_⟩) (by assumption) ?_
                  rotate_left
                  · (intro w hSw; (try dsimp only at hSw); go_simp; try with_reducible rfl)
                  try simp only [Act.put, List.setIfInBounds_toArray, List.set_cons_zero, List.set_cons_succ]
                  refine wpAnyH_take (i := 19) (oi := Oper.mk _ _ _ _ _ _) (v := ?_) rfl (by kernel_rfl) (by kernel_rfl) (by kernel_rfl) (fun _ _ _ h => h) (Or.inl ⟨by rfl, ?_⟩) (by assumption) ?_
                  rotate_left
                  · (intro w hSw; (try dsimp only at hSw); go_simp; try with_reducible rfl)
                  try simp only [Act.put, List.setIfInBounds_toArray, List.set_cons_zero, List.set_cons_succ]
                  refine wpAnyH_take (i := 20) (oi := Oper.mk _ _ _ _ _ _) (v := ?_) rfl (by kernel_rfl) (by kernel_rfl) (by kernel_rfl) (fun _ _ _ h => h) (Or.inl ⟨by rfl, ?_⟩) (by assumption) ?_
                  rotate_left
                  · (intro w hSw; (try dsimp only at hSw); go_simp; try with_reducible rfl)
                  try simp only [Act.put, List.setIfInBounds_toArray, List.set_cons_zero, List.set_cons_succ]
                  refine wpAnyH_ready (rs := [21]) (by kernel_rfl) (by simp) ?_
                  refine AllReadyH.cons (o := Oper.mk _ _ _ _ _ _) rfl (fun K hK => ?_) AllReadyH.nil
                  go_simp
                  go_wp2_with (go_at_call 14; refine (HIe.out _ ?_).mono ?_; exact HBw5.out.drew; rintro e w5 ⟨rfl, hb5⟩; have HBd := Lib.hid ((Below.refl w4.heap.size w4).drew.trans hb5); have HG6 := Lib.hid (HG5.out.on HBd.out); have HB6 := Lib.hid (HB5.out.trans (HBd.out.mono HB5.out.size)); have HBw6 := Lib.hid (HBw5.out.trans (HBd.out.mono HBw5.out.size)); have HRl6 := Lib.hid (HRl5.out.on RowR.lasts HBd.out); have HE6 := Lib.hid (And.intro (((bcell HBd.out).1 vb _ (Nat.lt_of_lt_of_le hvl2 HBw5.out.size)).trans HE5.out.1) (((bcell HBd.out).1 vb _ (Nat.lt_of_lt_of_le hvl2 HBw5.out.size)).trans HE5.out.2)); have HF6 := Lib.hid (HFit.out w5 HBw6.out HG6.out))
                  refine hK.out _ _ (⟨HG6.out.g0, HG6.out.g1, HG6.out.g2, HG6.out.v0, HG6.out.v1, HF6.out.f5, HE6.out.1, HE6.out.2⟩) (fun hHeld => ?_)
                  clear hK K
                  try simp only [Act.put, List.setIfInBounds_toArray, List.set_cons_zero, List.set_cons_succ]
                  clear hb5 HBd HG5 HB5 HBw5 HRl5 HE5 HF5
                  generalize hq : isB n1 x.sizes f.res v.els = q at *
                  clear hq
                  cases q with
                  | false =>
                    refine wpAnyH_take (i := 22) (oi := Oper.mk _ _ _ _ _ _) (v := ?_) rfl (by kernel_rfl) (by kernel_rfl) (by kernel_rfl) (fun _ _ _ h => h) (Or.inl ⟨by rfl, ?_⟩) (by assumption) ?_
                    rotate_left
                    · (intro w hSw; (try dsimp only at hSw); go_simp; try with_reducible rfl)
                    try simp only [Act.put, List.setIfInBounds_toArray, List.set_cons_zero, List.set_cons_succ]
                    refine wpAnyH_take (i := 23) (oi := Oper.mk _ _ _ _ _ _) (v := ?_) rfl (by kernel_rfl) (by kernel_rfl) (by kernel_rfl) (fun _ _ _ h => h) (Or.inl ⟨by rfl, ?_⟩) (by assumption) ?_
                    rotate_left
                    · (intro w hSw; (try dsimp only at hSw); go_simp; try with_reducible rfl)
                    try simp only [Act.put, List.setIfInBounds_toArray, List.set_cons_zero, List.set_cons_succ]
                    refine wpAnyH_done (by kernel_rfl) ?_ _
                    have HR := Lib.hid (show mb = false by rw [HE.out, HAz.out (by rw [HA.out]; rfl)]; rfl)
                    go_wp2_with fail
                    go_ret
                    exact ⟨ret_bool HR.out.symm, HBw6.out⟩
                  | true =>
                    refine wpAnyH_take (i := 22) (oi := Oper.mk _ _ _ _ _ _) (v := ?_) rfl (by kernel_rfl) (by kernel_rfl) (by kernel_rfl) (fun _ _ _ h => h) (Or.inl ⟨by rfl, ?_⟩) (by assumption) ?_
                    rotate_left
                    · (intro w hSw; (try dsimp only at hSw); go_simp; try with_reducible rfl)
                    try simp only [Act.put, List.setIfInBounds_toArray, List.set_cons_zero, List.set_cons_succ]
                    refine wpAnyH_take (i := 23) (oi := Oper.mk _ _ _ _ _ _) (v := ?_) rfl (by kernel_rfl) (by kernel_rfl) (by kernel_rfl) (fun _ _ _ h => h) (Or.inl ⟨by rfl, ?_⟩) (by assumption) ?_
                    rotate_left
                    · (intro w hSw; (try dsimp only at hSw); go_simp; try with_reducible rfl)
                    try simp only [Act.put, List.setIfInBounds_toArray, List.set_cons_zero, List.set_cons_succ]
                    refine wpAnyH_done (by kernel_rfl) ?_ _
                    replace HA := Lib.hid (show funAt g x k = v.rows.all (rowOk n1 x.sizes f) by rw [HA.out]; rfl)
                    have r0 := HE6.out.1
                    go_wp2_with fail
                    clear r0
                    go_loopw [84] (fun i wv => ∃ j : Nat, j ≤ v.rows.length ∧ i = .int .i64 j ∧ (v.rows.take j).all (rowOk n1 x.sizes f) = true ∧ Below w5.heap.size w5 wv) (fun i _ => v.rows.length - (intOf i).toNat)
                    case atStart => exact ⟨0, by omega, rfl, rfl, Below.refl _ _⟩
                    case round =>
                      obtain ⟨j, hj, rfl, hok, hb⟩ := hrel
                      have HJ := Lib.hid hok
                      have HBj := Lib.hid hb
                      have HBw7 := Lib.hid (HBw6.out.trans (hb.mono HBw6.out.size))
                      have HG7 := Lib.hid (HG6.out.on hb)
                      have HRl7 := Lib.hid (HRl6.out.on RowR.lasts hb)
                      clear hok hb
                      by_cases hjl : j < v.rows.length
                      · have hjl2 : (j : Int) < (v.rows.length : Int) := by omega
                        obtain ⟨r, hr⟩ : ∃ r, v.rows[j]? = some r := ⟨_, List.getElem?_eq_getElem hjl⟩
                        obtain ⟨rb, ro, rfl, hrbl⟩ := lies_addr HRl7.out hr
                        obtain ⟨d0, d1', d2', d3, hri, hrv⟩ := row_cells' HRl7.out (Below.refl _ _) hr
                        have HS := Lib.hid (all_succ (p := rowOk n1 x.sizes f) hr HJ.out)
                        have HSx := Lib.hid (fun h => all_stop (p := rowOk n1 x.sizes f) hr h)
                        have HRo := Lib.hid (show rowOk n1 x.sizes f r = (fitsB n1 x.sizes f (Row.args r) && isB n1 x.sizes f.res r.val) from rfl)
                        have BA := Lib.hid ((Below.refl wr.heap.size wr).alloc (Nat.le_refl _) (.cells #[.int .i64 r.a0, .int .i64 r.a1, .int .i64 r.a2, .int .i64 r.val] 69))
                        have HBx := Lib.hid (box4_cells wr (.int .i64 r.a0) (.int .i64 r.a1) (.int .i64 r.a2) (.int .i64 r.val) 69)
                        have HRI := Lib.hid (And.intro hri hrv)
                        clear hr hri hrv
                        go_wp2_with fail
                        generalize hw8 : wr.alloc (.cells #[.int .i64 r.a0, .int .i64 r.a1, .int .i64 r.a2, .int .i64 r.val] 69) = w8 at *
                        clear hw8 d0 d1' d2' d3
                        generalize hbx : wr.heap.size = bx at HBx ⊢
                        clear hbx
                        have HG8 := Lib.hid (HG7.out.on BA.out)
                        have HB8 := Lib.hid (HBj.out.trans (BA.out.mono HBj.out.size))
                        have HBw8 := Lib.hid (HBw7.out.trans (BA.out.mono HBw7.out.size))
                        have HD := Lib.hid (Below.refl w8.heap.size w8).drew
                        have HF8 := Lib.hid (HFit.out w8 HBw8.out HG8.out)
                        have HFc := Lib.hid (fun W (hW : Below w8.heap.size w8 W) => HFt.out W (HBw8.out.trans (hW.mono HBw8.out.size)) _ _ _ _ f (HF8.out.on hW) (Row.args r) HRI.out.1)
                        have HIc := Lib.hid (fun W (hW : Below w8.heap.size w8 W) => HIs.out W (HBw8.out.trans (hW.mono HBw8.out.size)) f.res r.val HRI.out.2)
                        clear HG7 HBj HBw7 BA
                        generalize hq1 : fitsB n1 x.sizes f (Row.args r) = q1 at *
                        generalize hq2 : isB n1 x.sizes f.res r.val = q2 at *
                        clear hq1 hq2
                        refine wp_region_held_drew (S := fun W => W.cell? ⟨w.heap.size, 0, none⟩ = some (.slice A1 n1 c1) ∧ W.cell? ⟨w.heap.size, 1, none⟩ = some (.slice (some ⟨fb, fo, none⟩) n2 c2) ∧ W.cell? ⟨w.heap.size, 2, none⟩ = some (.slice A3 n3 c3) ∧ W.cell? ⟨w.heap.size + 1, 0, none⟩ = some (.slice B1 m1 d1) ∧ W.cell? ⟨w.heap.size + 1, 1, none⟩ = some (.slice (some ⟨vb, vo, none⟩) m2 d2) ∧ W.cell? ⟨fb, fo + k * 6 + 5, none⟩ = some (.int .i64 f.res) ∧ W.cell? ⟨bx, 0, none⟩ = some (.int .i64 r.a0) ∧ W.cell? ⟨bx, 1, none⟩ = some (.int .i64 r.a1) ∧ W.cell? ⟨bx, 2, none⟩ = some (.int .i64 r.a2) ∧ W.cell? ⟨bx, 3, none⟩ = some (.int .i64 r.val)) (by kernel_rfl) (⟨HG8.out.g0, HG8.out.g1, HG8.out.g2, HG8.out.v0, HG8.out.v1, HF8.out.f5, HBx.out.1, HBx.out.2.1, HBx.out.2.2.1, HBx.out.2.2.2.1⟩) (fun hHeld => ?_)
                        refine wpAnyH_take (i := 0) (oi := Oper.mk _ _ _ _ _ _) (v := ?_) rfl (by kernel_rfl) (by kernel_rfl) (by kernel_rfl) (fun _ _ _ h => h) (Or.inl ⟨by rfl, ?_⟩) (by assumption) ?_
                        rotate_left
                        · (intro w hSw; (try dsimp only at hSw); go_simp; try with_reducible rfl)
                        try simp only [Act.put, List.setIfInBounds_toArray, List.set_cons_zero, List.set_cons_succ]
                        refine wpAnyH_take (i := 1) (oi := Oper.mk _ _ _ _ _ _) (v := ?_) rfl (by kernel_rfl) (by kernel_rfl) (by kernel_rfl) (fun _ _ _ h => h) (Or.inl ⟨by rfl, ?_⟩) (by assumption) ?_
                        rotate_left
                        · (intro w hSw; (try dsimp only at hSw); go_simp; try with_reducible rfl)
                        try simp only [Act.put, List.setIfInBounds_toArray, List.set_cons_zero, List.set_cons_succ]
                        refine wpAnyH_take (i := 2) (oi := Oper.mk _ _ _ _ _ _) (v := ?_) rfl (by kernel_rfl) (by kernel_rfl) (by kernel_rfl) (fun _ _ _ h => h) (Or.inl ⟨by rfl, ?_⟩) (by assumption) ?_
                        rotate_left
                        · (intro w hSw; (try dsimp only at hSw); go_simp; try with_reducible rfl)
                        try simp only [Act.put, List.setIfInBounds_toArray, List.set_cons_zero, List.set_cons_succ]
                        refine wpAnyH_ready (rs := [3]) (by kernel_rfl) (by simp) ?_
                        refine AllReadyH.cons (o := Oper.mk _ _ _ _ _ _) rfl (fun K hK => ?_) AllReadyH.nil
                        go_simp
                        go_wp2_with (go_at_call 38; refine (HFc.out _ ?_).mono ?_; exact HD.out; rintro e w9 ⟨rfl, hb9⟩; have HD9 := Lib.hid (HD.out.trans hb9); have HG9 := Lib.hid (HG8.out.on HD9.out); have HBx9 := Lib.hid (HBx.out.on HD9.out); have HF9 := Lib.hid (HF8.out.on HD9.out))
                        refine hK.out _ _ (⟨HG9.out.g0, HG9.out.g1, HG9.out.g2, HG9.out.v0, HG9.out.v1, HF9.out.f5, HBx9.out.1, HBx9.out.2.1, HBx9.out.2.2.1, HBx9.out.2.2.2.1⟩) (fun hHeld => ?_)
                        clear hK K
                        try simp only [Act.put, List.setIfInBounds_toArray, List.set_cons_zero, List.set_cons_succ]
                        clear hb9
                        cases q1 with
                        | false =>
                          have HR := Lib.hid (show mb = false by rw [HE.out, HAz.out (by rw [HA.out]; exact HSx.out (by rw [HRo.out]; rfl))]; rfl)
                          have HBd := Lib.hid (HBw8.out.trans (HD9.out.mono HBw8.out.size))
                          refine wpAnyH_take (i := 4) (oi := Oper.mk _ _ _ _ _ _) (v := ?_) rfl (by kernel_rfl) (by kernel_rfl) (by kernel_rfl) (fun _ _ _ h => h) (Or.inl ⟨by rfl, ?_⟩) (by assumption) ?_
                          rotate_left
                          · (intro w hSw; (try dsimp only at hSw); go_simp; try with_reducible rfl)
                          try simp only [Act.put, List.setIfInBounds_toArray, List.set_cons_zero, List.set_cons_succ]
                          refine wpAnyH_take (i := 5) (oi := Oper.mk _ _ _ _ _ _) (v := ?_) rfl (by kernel_rfl) (by kernel_rfl) (by kernel_rfl) (fun _ _ _ h => h) (Or.inl ⟨by rfl, ?_⟩) (by assumption) ?_
                          rotate_left
                          · (intro w hSw; (try dsimp only at hSw); go_simp; try with_reducible rfl)
                          try simp only [Act.put, List.setIfInBounds_toArray, List.set_cons_zero, List.set_cons_succ]
                          refine wpAnyH_take (i := 6) (oi := Oper.mk _ _ _ _ _ _) (v := undef) rfl (by kernel_rfl) (by kernel_rfl) (by kernel_rfl) (fun _ _ _ h => h) (Or.inr ⟨by rfl, rfl⟩) (by assumption) ?_
                          try simp only [Act.put, List.setIfInBounds_toArray, List.set_cons_zero, List.set_cons_succ]
                          refine wpAnyH_take (i := 7) (oi := Oper.mk _ _ _ _ _ _) (v := undef) rfl (by kernel_rfl) (by kernel_rfl) (by kernel_rfl) (fun _ _ _ h => h) (Or.inr ⟨by rfl, rfl⟩) (by assumption) ?_
                          try simp only [Act.put, List.setIfInBounds_toArray, List.set_cons_zero, List.set_cons_succ]
                          refine wpAnyH_take (i := 8) (oi := Oper.mk _ _ _ _ _ _) (v := undef) rfl (by kernel_rfl) (by kernel_rfl) (by kernel_rfl) (fun _ _ _ h => h) (Or.inr ⟨by rfl, rfl⟩) (by assumption) ?_
                          try simp only [Act.put, List.setIfInBounds_toArray, List.set_cons_zero, List.set_cons_succ]
                          refine wpAnyH_take (i := 9) (oi := Oper.mk _ _ _ _ _ _) (v := undef) rfl (by kernel_rfl) (by kernel_rfl) (by kernel_rfl) (fun _ _ _ h => h) (Or.inr ⟨by rfl, rfl⟩) (by assumption) ?_
                          try simp only [Act.put, List.setIfInBounds_toArray, List.set_cons_zero, List.set_cons_succ]
                          refine wpAnyH_take (i := 10) (oi := Oper.mk _ _ _ _ _ _) (v := undef) rfl (by kernel_rfl) (by kernel_rfl) (by kernel_rfl) (fun _ _ _ h => h) (Or.inr ⟨by rfl, rfl⟩) (by assumption) ?_
                          try simp only [Act.put, List.setIfInBounds_toArray, List.set_cons_zero, List.set_cons_succ]
                          refine wpAnyH_take (i := 11) (oi := Oper.mk _ _ _ _ _ _) (v := undef) rfl (by kernel_rfl) (by kernel_rfl) (by kernel_rfl) (fun _ _ _ h => h) (Or.inr ⟨by rfl, rfl⟩) (by assumption) ?_
                          try simp only [Act.put, List.setIfInBounds_toArray, List.set_cons_zero, List.set_cons_succ]
                          refine wpAnyH_take (i := 12) (oi := Oper.mk _ _ _ _ _ _) (v := undef) rfl (by kernel_rfl) (by kernel_rfl) (by kernel_rfl) (fun _ _ _ h => h) (Or.inr ⟨by rfl, rfl⟩) (by assumption) ?_
                          try simp only [Act.put, List.setIfInBounds_toArray, List.set_cons_zero, List.set_cons_succ]
                          refine wpAnyH_take (i := 13) (oi := Oper.mk _ _ _ _ _ _) (v := undef) rfl (by kernel_rfl) (by kernel_rfl) (by kernel_rfl) (fun _ _ _ h => h) (Or.inr ⟨by rfl, rfl⟩) (by assumption) ?_
                          try simp only [Act.put, List.setIfInBounds_toArray, List.set_cons_zero, List.set_cons_succ]
                          refine wpAnyH_take (i := 14) (oi := Oper.mk _ _ _ _ _ _) (v := undef) rfl (by kernel_rfl) (by kernel_rfl) (by kernel_rfl) (fun _ _ _ h => h) (Or.inr ⟨by rfl, rfl⟩) (by assumption) ?_
                          try simp only [Act.put, List.setIfInBounds_toArray, List.set_cons_zero, List.set_cons_succ]
                          refine wpAnyH_take (i := 15) (oi := Oper.mk _ _ _ _ _ _) (v := undef) rfl (by kernel_rfl) (by kernel_rfl) (by kernel_rfl) (fun _ _ _ h => h) (Or.inr ⟨by rfl, rfl⟩) (by assumption) ?_
                          try simp only [Act.put, List.setIfInBounds_toArray, List.set_cons_zero, List.set_cons_succ]
                          refine wpAnyH_take (i := 16) (oi := Oper.mk _ _ _ _ _ _) (v := ?_) rfl (by kernel_rfl) (by kernel_rfl) (by kernel_rfl) (fun _ _ _ h => h) (Or.inl ⟨by rfl, ?_⟩) (by assumption) ?_
                          rotate_left
                          · (intro w hSw; (try dsimp only at hSw); go_simp; try with_reducible rfl)
                          try simp only [Act.put, List.setIfInBounds_toArray, List.set_cons_zero, List.set_cons_succ]
                          refine wpAnyH_done (by kernel_rfl) ?_ _
                          go_wp2_with fail
                          go_ret
                          exact ⟨ret_bool HR.out.symm, HBd.out⟩
                        | true =>
                          refine wpAnyH_take (i := 4) (oi := Oper.mk _ _ _ _ _ _) (v := ?_) rfl (by kernel_rfl) (by kernel_rfl) (by kernel_rfl) (fun _ _ _ h => h) (Or.inl ⟨by rfl, ?_⟩) (by assumption) ?_
                          rotate_left
                          · (intro w hSw; (try dsimp only at hSw); go_simp; try with_reducible rfl)
                          try simp only [Act.put, List.setIfInBounds_toArray, List.set_cons_zero, List.set_cons_succ]
                          refine wpAnyH_take (i := 5) (oi := Oper.mk _ _ _ _ _ _) (v := ?_) rfl (by kernel_rfl) (by kernel_rfl) (by kernel_rfl) (fun _ _ _ h => h) (Or.inl ⟨by rfl, ?_⟩) (by assumption) ?_
                          rotate_left
                          · (intro w hSw; (try dsimp only at hSw); go_simp; try with_reducible rfl)
                          try simp only [Act.put, List.setIfInBounds_toArray, List.set_cons_zero, List.set_cons_succ]
                          refine wpAnyH_take (i := 6) (oi := Oper.mk _ _ _ _ _ _) (v := ?_) rfl (by kernel_rfl) (by kernel_rfl) (by kernel_rfl) (fun _ _ _ h => h) (Or.inl ⟨by rfl, ?_⟩) (by assumption) ?_
                          rotate_left
                          · (intro w hSw; (try dsimp only at hSw); go_simp; try with_reducible rfl)
                          try simp only [Act.put, List.setIfInBounds_toArray, List.set_cons_zero, List.set_cons_succ]
                          refine wpAnyH_take (i := 7) (oi := Oper.mk _ _ _ _ _ _) (v := ?_) rfl (by kernel_rfl) (by kernel_rfl) (by kernel_rfl) (fun _ _ _ h => h) (Or.inl ⟨by rfl, ?_⟩) (by assumption) ?_
                          rotate_left
                          · (intro w hSw; (try dsimp only at hSw); go_simp; try with_reducible rfl)
                          try simp only [Act.put, List.setIfInBounds_toArray, List.set_cons_zero, List.set_cons_succ]
                          refine wpAnyH_take (i := 8) (oi := Oper.mk _ _ _ _ _ _) (v := ?_) rfl (by kernel_rfl) (by kernel_rfl) (by kernel_rfl) (fun _ _ _ h => h) (Or.inl ⟨by rfl, ?_⟩) (by assumption) ?_
                          rotate_left
                          · (intro w hSw; (try dsimp only at hSw); go_simp; try with_reducible rfl)
                          try simp only [Act.put, List.setIfInBounds_toArray, List.set_cons_zero, List.set_cons_succ]
                          refine wpAnyH_take (i := 9) (oi := Oper.mk _ _ _ _ _ _) (v := ?_) rfl (by kernel_rfl) (by kernel_rfl) (by kernel_rfl) (fun _ _ _ h => h) (Or.inl ⟨by rfl, ?_⟩) (by assumption) ?_
                          rotate_left
                          · (intro w hSw; (try dsimp only at hSw); go_simp; try with_reducible rfl)
                          try simp only [Act.put, List.setIfInBounds_toArray, List.set_cons_zero, List.set_cons_succ]
                          refine wpAnyH_take (i := 10) (oi := Oper.mk _ _ _ _ _ _) (v := ?_) rfl (by kernel_rfl) (by kernel_rfl) (by kernel_rfl) (fun _ _ _ h => h) (Or.inl ⟨by rfl, ?_⟩) (by assumption) ?_
                          rotate_left
                          · (intro w hSw; (try dsimp only at hSw); go_simp; try with_reducible rfl)
                          try simp only [Act.put, List.setIfInBounds_toArray, List.set_cons_zero, List.set_cons_succ]
                          refine wpAnyH_take (i := 11) (oi := Oper.mk _ _ _ _ _ _) (v := ?_) rfl (by kernel_rfl) (by kernel_rfl) (by kernel_rfl) (fun _ _ _ h => h) (Or.inl ⟨by rfl, ?_⟩) (by assumption) ?_
                          rotate_left
                          · (intro w hSw; (try dsimp only at hSw); go_simp; try with_reducible rfl)
                          try simp only [Act.put, List.setIfInBounds_toArray, List.set_cons_zero, List.set_cons_succ]
                          refine wpAnyH_take (i := 12) (oi := Oper.mk _ _ _ _ _ _) (v := ?_) rfl (by kernel_rfl) (by kernel_rfl) (by kernel_rfl) (fun _ _ _ h => h) (Or.inl ⟨by rfl, ?_⟩) (by assumption) ?_
                          rotate_left
                          · (intro w hSw; (try dsimp only at hSw); go_simp; try with_reducible rfl)
                          try simp only [Act.put, List.setIfInBounds_toArray, List.set_cons_zero, List.set_cons_succ]
                          refine wpAnyH_take (i := 13) (oi := Oper.mk _ _ _ _ _ _) (v := ?_) rfl (by kernel_rfl) (by kernel_rfl) (by kernel_rfl) (fun _ _ _ h => h) (Or.inl ⟨by rfl, ?_⟩) (by assumption) ?_
                          rotate_left
                          · (intro w hSw; (try dsimp only at hSw); go_simp; try with_reducible rfl)
                          try simp only [Act.put, List.setIfInBounds_toArray, List.set_cons_zero, List.set_cons_succ]
                          refine wpAnyH_ready (rs := [14]) (by kernel_rfl) (by simp) ?_
                          refine AllReadyH.cons (o := Oper.mk _ _ _ _ _ _) rfl (fun K hK => ?_) AllReadyH.nil
                          go_simp
                          go_wp2_with (go_at_call 14; refine (HIc.out _ ?_).mono ?_; exact HD9.out; rintro e w10 ⟨rfl, hb10⟩; have HD10 := Lib.hid (HD9.out.trans (hb10.mono HD9.out.size)); have HG10 := Lib.hid (HG8.out.on HD10.out); have HBx10 := Lib.hid (HBx.out.on HD10.out); have HF10 := Lib.hid (HF8.out.on HD10.out))
                          refine hK.out _ _ (⟨HG10.out.g0, HG10.out.g1, HG10.out.g2, HG10.out.v0, HG10.out.v1, HF10.out.f5, HBx10.out.1, HBx10.out.2.1, HBx10.out.2.2.1, HBx10.out.2.2.2.1⟩) (fun hHeld => ?_)
                          clear hK K
                          try simp only [Act.put, List.setIfInBounds_toArray, List.set_cons_zero, List.set_cons_succ]
                          clear hb10
                          cases q2 with
                          | false =>
                            refine wpAnyH_take (i := 15) (oi := Oper.mk _ _ _ _ _ _) (v := ?_) rfl (by kernel_rfl) (by kernel_rfl) (by kernel_rfl) (fun _ _ _ h => h) (Or.inl ⟨by rfl, ?_⟩) (by assumption) ?_
                            rotate_left
                            · (intro w hSw; (try dsimp only at hSw); go_simp; try with_reducible rfl)
                            try simp only [Act.put, List.setIfInBounds_toArray, List.set_cons_zero, List.set_cons_succ]
                            refine wpAnyH_take (i := 16) (oi := Oper.mk _ _ _ _ _ _) (v := ?_) rfl (by kernel_rfl) (by kernel_rfl) (by kernel_rfl) (fun _ _ _ h => h) (Or.inl ⟨by rfl, ?_⟩) (by assumption) ?_
                            rotate_left
                            · (intro w hSw; (try dsimp only at hSw); go_simp; try with_reducible rfl)
                            try simp only [Act.put, List.setIfInBounds_toArray, List.set_cons_zero, List.set_cons_succ]
                            refine wpAnyH_done (by kernel_rfl) ?_ _
                            have HR := Lib.hid (show mb = false by rw [HE.out, HAz.out (by rw [HA.out]; exact HSx.out (by rw [HRo.out]; rfl))]; rfl)
                            have HBd := Lib.hid (HBw8.out.trans (HD10.out.mono HBw8.out.size))
                            go_wp2_with fail
                            go_ret
                            exact ⟨ret_bool HR.out.symm, HBd.out⟩
                          | true =>
                            refine wpAnyH_take (i := 15) (oi := Oper.mk _ _ _ _ _ _) (v := ?_) rfl (by kernel_rfl) (by kernel_rfl) (by kernel_rfl) (fun _ _ _ h => h) (Or.inl ⟨by rfl, ?_⟩) (by assumption) ?_
                            rotate_left
                            · (intro w hSw; (try dsimp only at hSw); go_simp; try with_reducible rfl)
                            try simp only [Act.put, List.setIfInBounds_toArray, List.set_cons_zero, List.set_cons_succ]
                            refine wpAnyH_take (i := 16) (oi := Oper.mk _ _ _ _ _ _) (v := ?_) rfl (by kernel_rfl) (by kernel_rfl) (by kernel_rfl) (fun _ _ _ h => h) (Or.inl ⟨by rfl, ?_⟩) (by assumption) ?_
                            rotate_left
                            · (intro w hSw; (try dsimp only at hSw); go_simp; try with_reducible rfl)
                            try simp only [Act.put, List.setIfInBounds_toArray, List.set_cons_zero, List.set_cons_succ]
                            refine wpAnyH_done (by kernel_rfl) ?_ _
                            have HR := Lib.hid (HS.out.trans HRo.out)
                            have HBd := Lib.hid (HB8.out.trans (HD10.out.mono HB8.out.size))
                            go_wp2_with fail
                            go_roundw
                            case rel => exact ⟨j + 1, by omega, by go_num, HR.out, HBd.out⟩
                            case measure => simp [intOf]; omega
                      · obtain rfl : j = v.rows.length := by omega
                        have HR := Lib.hid (show allTo (funAt g x) (k + 1) = true by rw [HAn.out, HO.out, HA.out]; have h := HJ.out; rw [List.take_length] at h; rw [h]; rfl)
                        have HBd := Lib.hid (HB6.out.trans (HBj.out.mono HB6.out.size))
                        go_wp2_with fail
                        go_roundw
                        case rel => exact ⟨k + 1, by omega, by go_num, HR.out, HBd.out⟩
                        case measure => simp [intOf]; omega
            · obtain rfl : m2 = k := by omega
              have HR := Lib.hid (show mb = true by rw [HE.out, HO.out]; rfl)
              go_wp2_with fail
              go_ret
              exact ⟨ret_bool HR.out.symm, HBw.out⟩
      · have HR := Lib.hid (show mb = false by rw [HE.out, decide_eq_false h2]; rfl)
        have h2' : ((m2 : Int) == (n2 : Int)) = false := beq_eq_false_iff_ne.2 (by omega)
        have h2'' : ((m2 : Int) != (n2 : Int)) = true := by rw [bne, h2']; rfl
        go_wp2_with fail
        go_ret
        exact ⟨ret_bool HR.out.symm, HB3.out⟩
    · have HR := Lib.hid (show mb = false by rw [HE.out, decide_eq_false h1]; rfl)
      have h1' : ((m1 : Int) == (n1 : Int)) = false := beq_eq_false_iff_ne.2 (by omega)
      have h1'' : ((m1 : Int) != (n1 : Int)) = true := by rw [bne, h1']; rfl
      go_wp2_with fail
      go_ret
      exact ⟨ret_bool HR.out.symm, HB3.out⟩
end Go.Proofs.YtfcmpfaonpnbaaaGreatDoor.Vl
