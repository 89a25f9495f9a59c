import Derived.Test.YtfcmpfaonpnbaaaGreatDoorMq
import Derived.Test.YtfcmpfaonpnbaaaGreatDoorMr
import Derived.Test.YtfcmpfaonpnbaaaGreatDoorMl
import Derived.Test.YtfcmpfaonpnbaaaGreatDoorMn
/- merged by wip/merge.py from: VRefMay -/
/- The document's value: whether a world may be. -/
namespace Go.Proofs.YtfcmpfaonpnbaaaGreatDoor.Vl
open Go.RowKit Go.Proofs.YtfcmpfaonpnbaaaGreatDoor.Dt Go.Proofs.YtfcmpfaonpnbaaaGreatDoor.Sg

/-- a function's box and what it is -/
structure FV (W : World) (fb vb : Nat) (f : Fun4) (Ar : Option Addr) (n cr : Nat) (els : Int) : Prop where
  f0 : W.cell? ⟨fb, 0, none⟩ = some (.string f.name)
  f1 : W.cell? ⟨fb, 1, none⟩ = some (.int .i64 f.len)
  f2 : W.cell? ⟨fb, 2, none⟩ = some (.int .i64 f.a0)
  f3 : W.cell? ⟨fb, 3, none⟩ = some (.int .i64 f.a1)
  f4 : W.cell? ⟨fb, 4, none⟩ = some (.int .i64 f.a2)
  f5 : W.cell? ⟨fb, 5, none⟩ = some (.int .i64 f.res)
  v0 : W.cell? ⟨vb, 0, none⟩ = some (.slice Ar n cr)
  v1 : W.cell? ⟨vb, 1, none⟩ = some (.int .i64 els)
  lf : fb < W.heap.size
  lv : vb < W.heap.size
theorem FV.on {W W' : World} {fb vb : Nat} {f : Fun4} {Ar : Option Addr} {n cr : Nat} {els : Int} (h : FV W fb vb f Ar n cr els) (hb : Below W.heap.size W W') : FV W' fb vb f Ar n cr els := by
  have e := fun b o (hlt : b < W.heap.size) => (bcell hb).1 b o hlt
  have s := hb.size
  exact ⟨(e _ _ h.lf).trans h.f0, (e _ _ h.lf).trans h.f1, (e _ _ h.lf).trans h.f2, (e _ _ h.lf).trans h.f3, (e _ _ h.lf).trans h.f4, (e _ _ h.lf).trans h.f5, (e _ _ h.lv).trans h.v0, (e _ _ h.lv).trans h.v1, Nat.lt_of_lt_of_le h.lf s, Nat.lt_of_lt_of_le h.lv s⟩
theorem fv_made1 (w : World) (f : Fun4) (Ar : Option Addr) (n cr : Nat) (els : Int) (t t' : TypeId) : FV ((w.alloc (.cells #[.string f.name, .int .i64 f.len, .int .i64 f.a0, .int .i64 f.a1, .int .i64 f.a2, .int .i64 f.res] t)).alloc (.cells #[.slice Ar n cr, .int .i64 els] t')) w.heap.size (w.heap.size + 1) f Ar n cr els := by
  have c1 := fun j => alloc_cell w #[.string f.name, .int .i64 f.len, .int .i64 f.a0, .int .i64 f.a1, .int .i64 f.a2, .int .i64 f.res] t w.heap.size j rfl
  have z1 : (w.alloc (.cells #[.string f.name, .int .i64 f.len, .int .i64 f.a0, .int .i64 f.a1, .int .i64 f.a2, .int .i64 f.res] t)).heap.size = w.heap.size + 1 := by simp
  generalize w.alloc (.cells #[.string f.name, .int .i64 f.len, .int .i64 f.a0, .int .i64 f.a1, .int .i64 f.a2, .int .i64 f.res] t) = w1 at *
  have c2 := fun j => alloc_cell w1 #[.slice Ar n cr, .int .i64 els] t' (w.heap.size + 1) j z1
  have b2 := (bcell ((Below.refl w1.heap.size w1).alloc (Nat.le_refl _) (.cells #[.slice Ar n cr, .int .i64 els] t'))).1
  have z2 : (w1.alloc (.cells #[.slice Ar n cr, .int .i64 els] t')).heap.size = w1.heap.size + 1 := by simp
  exact ⟨(b2 _ _ (by omega)).trans (c1 0), (b2 _ _ (by omega)).trans (c1 1), (b2 _ _ (by omega)).trans (c1 2), (b2 _ _ (by omega)).trans (c1 3), (b2 _ _ (by omega)).trans (c1 4), (b2 _ _ (by omega)).trans (c1 5), c2 0, c2 1, by omega, by omega⟩
theorem fv_made2 (w : World) (f : Fun4) (Ar : Option Addr) (n cr : Nat) (els : Int) (t t' : TypeId) : FV ((w.alloc (.cells #[.slice Ar n cr, .int .i64 els] t')).alloc (.cells #[.string f.name, .int .i64 f.len, .int .i64 f.a0, .int .i64 f.a1, .int .i64 f.a2, .int .i64 f.res] t)) (w.heap.size + 1) w.heap.size f Ar n cr els := by
  have c1 := fun j => alloc_cell w #[.slice Ar n cr, .int .i64 els] t' w.heap.size j rfl
  have z1 : (w.alloc (.cells #[.slice Ar n cr, .int .i64 els] t')).heap.size = w.heap.size + 1 := by simp
  generalize w.alloc (.cells #[.slice Ar n cr, .int .i64 els] t') = w1 at *
  have c2 := fun j => alloc_cell w1 #[.string f.name, .int .i64 f.len, .int .i64 f.a0, .int .i64 f.a1, .int .i64 f.a2, .int .i64 f.res] t (w.heap.size + 1) j z1
  have b2 := (bcell ((Below.refl w1.heap.size w1).alloc (Nat.le_refl _) (.cells #[.string f.name, .int .i64 f.len, .int .i64 f.a0, .int .i64 f.a1, .int .i64 f.a2, .int .i64 f.res] t))).1
  have z2 : (w1.alloc (.cells #[.string f.name, .int .i64 f.len, .int .i64 f.a0, .int .i64 f.a1, .int .i64 f.a2, .int .i64 f.res] t)).heap.size = w1.heap.size + 1 := by simp
  exact ⟨c2 0, c2 1, c2 2, c2 3, c2 4, c2 5, (b2 _ _ (by omega)).trans (c1 0), (b2 _ _ (by omega)).trans (c1 1), by omega, by omega⟩
def FVCut (wr : World) (f : Fun4) (Ar : Option Addr) (n cr : Nat) (els : Int) (vf vv : Value) (W : World) : Prop :=
  ∃ fb vb, vf = .pointer (some ⟨fb, 0, none⟩) ∧ vv = .pointer (some ⟨vb, 0, none⟩) ∧ FV W fb vb f Ar n cr els ∧ Below wr.heap.size wr W
theorem fun6_cells {w W : World} {A : Option Addr} {l : List Fun4} (h : Lies 6 FunR w A l) (hb : Below w.heap.size w W) {k : Nat} {f : Fun4} (hf : l[k]? = some f) :
    ∃ b o, A = some ⟨b, o, none⟩ ∧ b < w.heap.size ∧ W.cell? ⟨b, o + k * 6, none⟩ = some (.string f.name) ∧ W.cell? ⟨b, o + k * 6 + 1, none⟩ = some (.int .i64 f.len) ∧ W.cell? ⟨b, o + k * 6 + 2, none⟩ = some (.int .i64 f.a0) ∧ W.cell? ⟨b, o + k * 6 + 3, none⟩ = some (.int .i64 f.a1) ∧ W.cell? ⟨b, o + k * 6 + 4, none⟩ = some (.int .i64 f.a2) ∧ W.cell? ⟨b, o + k * 6 + 5, none⟩ = some (.int .i64 f.res) := by
  obtain ⟨b, o, vs, rfl, hbl, _, hcell, rfl, _⟩ := h.at' hf
  have e := fun j u (hu : _) => ((bcell hb).1 b (o + k * 6 + j) hbl).trans (hcell j u hu)
  exact ⟨b, o, rfl, hbl, e 0 _ rfl, e 1 _ rfl, e 2 _ rfl, e 3 _ rfl, e 4 _ rfl, e 5 _ rfl⟩
theorem sizes_succ {l : List Int} {k : Nat} (hk : k < l.length) (h : sizesOk (l.take k) = true) : sizesOk (l.take (k + 1)) = decide (1 ≤ l.getD k 0 ∧ l.getD k 0 ≤ 1000) := by
  unfold sizesOk at *
  rw [List.take_succ_eq_append_getElem hk, List.all_append, h, List.getD_eq_getElem?_getD, List.getElem?_eq_getElem hk]
  simp
theorem sizes_stop {l : List Int} {k : Nat} (hk : k < l.length) (h : ¬ (1 ≤ l.getD k 0 ∧ l.getD k 0 ≤ 1000)) : sizesOk l = false := by
  unfold sizesOk
  rw [List.all_eq_false]
  refine ⟨l[k], List.getElem_mem hk, ?_⟩
  rw [List.getD_eq_getElem?_getD, List.getElem?_eq_getElem hk] at h
  simpa using h
/-- rows that are there once: one more -/
theorem once_succ {l : List Row} {k : Nat} {r : Row} (hr : l[k]? = some r) (h : onceB (l.take k) = true) (hn : ∀ j q, j < k → l[j]? = some q → Row.args q ≠ Row.args r) : onceB (l.take (k + 1)) = true := by
  unfold onceB at *
  rw [decide_eq_true_iff] at *
  rw [List.take_add_one, hr, List.map_append, List.nodup_append]
  refine ⟨h, by simp, ?_⟩
  intro a ha b hb e
  simp only [Option.toList_some, List.map_cons, List.map_nil, List.mem_singleton] at hb
  subst hb
  obtain ⟨q, hq, rfl⟩ := List.mem_map.1 ha
  obtain ⟨j, hj, e2⟩ := List.getElem_of_mem hq
  have hjk : j < k := by simp at hj; omega
  exact hn j q hjk (by rw [← e2, List.getElem_take]; exact List.getElem?_eq_getElem (by simp at hj; omega)) e
theorem once_stop {l : List Row} {j k : Nat} {q r : Row} (hjk : j < k) (hq : l[j]? = some q) (hr : l[k]? = some r) (h : Row.args q = Row.args r) : onceB l = false := by
  unfold onceB
  rw [decide_eq_false_iff_not]
  intro hn
  have m1 : (l.map Row.args)[j]? = some (Row.args r) := by rw [List.getElem?_map, hq, ← h]; rfl
  have m2 : (l.map Row.args)[k]? = some (Row.args r) := by rw [List.getElem?_map, hr]; rfl
  have := (List.getElem?_inj (List.getElem?_eq_some_iff.1 m1).1 hn).1 (m1.trans m2.symm)
  omega
/-- the arguments of those before are others -/
def otherTo (l : List Row) (r : Row) (j : Nat) : Prop := ∀ i q, i < j → l[i]? = some q → Row.args q ≠ Row.args r
theorem other_zero (l : List Row) (r : Row) : otherTo l r 0 := fun i q hi => by omega
theorem other_succ {l : List Row} {r q : Row} {j : Nat} (h : otherTo l r j) (hq : l[j]? = some q) (hn : Row.args q ≠ Row.args r) : otherTo l r (j + 1) := fun i p hi hp => by
  by_cases e : i = j
  · subst e; rw [hq] at hp; cases hp; exact hn
  · exact h i p (by omega) hp
set_option maxRecDepth 100000 in
set_option maxHeartbeats 12800000 in
theorem rmayw_any {w : World} {A1 A2 A3 B1 B2 : Option Addr} {c1 c2 c3 d1 d2 : Nat} {g : Sig} {x : Wrld} (hg : SigAt w A1 c1 A2 c2 A3 c3 g) (hx : WrldAt w B1 d1 B2 d2 x) (hl1 : g.sorts.length ≤ 1000000) (hl2 : g.funs.length ≤ 1000000) (_ : g.macros.length ≤ 1000000) (hl4 : (x.sizes.length : Int) ≤ 1000000) :
    Calls Tryz.prog 17 #[.agg #[.slice A1 g.sorts.length c1, .slice A2 g.funs.length c2, .slice A3 g.macros.length c3], .agg #[.slice B1 x.sizes.length d1, .slice B2 x.funs.length d2]] w fun e w' => e = .returned (.bool (mayW g x)) ∧ Below w.heap.size w w' := by
  have HCk := Lib.hid (fun W (hW : Below w.heap.size w W) => rcheck_any (hg.on hW))
  have HSz := Lib.hid (fun W (hW : Below w.heap.size w W) k (hk : k < x.sizes.length) => cells_get (ints_cells (hx.sizes.on (IntR.lasts _) hW)) hk)
  have HIs := Lib.hid (fun W (hW : Below w.heap.size w W) s v (hv : I64 v) => ris_any (A1 := A1) (A2 := A2) (A3 := A3) (B2 := B2) (n1 := g.sorts.length) (c1 := c1) (n2 := g.funs.length) (c2 := c2) (n3 := g.macros.length) (c3 := c3) (d1 := d1) (m := x.funs.length) (d2 := d2) (hx.sizes.on (IntR.lasts _) hW) hl4 (by omega) s v hv)
  have HFt := Lib.hid (fun W (hW : Below w.heap.size w W) f a ha => rfits_any (A1 := A1) (A2 := A2) (A3 := A3) (B2 := B2) (n1 := g.sorts.length) (c1 := c1) (n2 := g.funs.length) (c2 := c2) (n3 := g.macros.length) (c3 := c3) (d1 := d1) (m := x.funs.length) (d2 := d2) (hx.sizes.on (IntR.lasts _) hW) hl4 (by omega) f a ha)
  have HFv := Lib.hid hx.funs
  have HFf := Lib.hid hg.funs
  have HE0 := Lib.hid (mayW_check (g := g) (x := x))
  have HE1 := Lib.hid (mayW_rest (g := g) (x := x))
  have HT := Lib.hid (checkE_true (g := g))
  have HF := Lib.hid (checkE_false (g := g))
  have hlf : (x.funs.length : Int) ≤ 140737488351232 := by have := hx.b2; omega
  have HB2 := Lib.hid (((Below.refl w.heap.size w).alloc (Nat.le_refl _) (.cells #[.slice A1 g.sorts.length c1, .slice A2 g.funs.length c2, .slice A3 g.macros.length c3] 26)).alloc (by simp) (.cells #[.slice B1 x.sizes.length d1, .slice B2 x.funs.length d2] 30))
  have HG2 := Lib.hid (gw_made w (.slice A1 g.sorts.length c1) (.slice A2 g.funs.length c2) (.slice A3 g.macros.length c3) (.slice B1 x.sizes.length d1) (.slice B2 x.funs.length d2) 26 30)
  clear hg hx
  generalize mayW g x = mb at *
  generalize hn1 : g.sorts.length = n1 at *
  generalize hn2 : g.funs.length = n2 at *
  generalize hn3 : g.macros.length = n3 at *
  generalize hm1 : x.sizes.length = m1 at *
  generalize hm2 : x.funs.length = m2 at *
  have HM1 := Lib.hid hm1
  have HAt := Lib.hid (fun k f v hf hv => funAt_eq (g := g) (x := x) (k := k) (f := f) (v := v) hf hv)
  rw [hn1] at HAt
  have HAs := Lib.hid (fun k => allTo_succ (funAt g x) k)
  have HAx := Lib.hid (fun k (hk : k < m2) h => allTo_stop (p := funAt g x) (k := k) (n := m2) hk h)
  generalize checkB g = cb at *
  generalize checkE g = ce at *
  clear hm1
  go_enter Tryz.func17, Tryz.ntmps17
  go_wp2_with fail
  generalize (w.alloc (.cells #[.slice A1 n1 c1, .slice A2 n2 c2, .slice A3 n3 c3] 26)).alloc (.cells #[.slice B1 m1 d1, .slice B2 m2 d2] 30) = w2 at *
  refine (HCk.out w2 HB2.out).mono ?_
  rintro e w3 ⟨rfl, hb3⟩
  have HB3 := Lib.hid (HB2.out.trans (hb3.mono HB2.out.size))
  have HG3 := Lib.hid (HG2.out.on hb3)
  clear hb3 HG2 HB2
  have q0 := HG3.out.g0
  have q1 := HG3.out.g1
  have q2 := HG3.out.g2
  have p0 := HG3.out.v0
  have p1 := HG3.out.v1
  cases cb with
  | false =>
    have HR := Lib.hid (HE0.out rfl)
    have hce := HF.out rfl
    subst hce
    go_wp2_with fail
    go_ret
    exact ⟨ret_bool HR.out.symm, HB3.out⟩
  | true =>
    have HE := Lib.hid (HE1.out rfl)
    have hce := HT.out rfl
    subst hce
    by_cases h1 : m1 = n1
    · replace HE := Lib.hid (show mb = (decide (m2 = n2) && (sizesOk x.sizes && allTo (funAt g x) m2)) by rw [HE.out, decide_eq_true h1]; rfl)
      have h1' : ((m1 : Int) == (n1 : Int)) = true := beq_iff_eq.2 (by omega)
      have h1'' : ((m1 : Int) != (n1 : Int)) = false := by rw [bne, h1']; rfl
      by_cases h2 : m2 = n2
      · replace HE := Lib.hid (show mb = (sizesOk x.sizes && allTo (funAt g x) m2) by rw [HE.out, decide_eq_true h2]; rfl)
        have h2' : ((m2 : Int) == (n2 : Int)) = true := beq_iff_eq.2 (by omega)
        have h2'' : ((m2 : Int) != (n2 : Int)) = false := by rw [bne, h2']; rfl
        have HH := Lib.hid (And.intro h1 h2)
        clear h1 h2
        go_wp2_with fail
        go_loop [5] (fun v => ∃ k : Nat, k ≤ m1 ∧ v = .int .i64 k ∧ sizesOk (x.sizes.take k) = true) (fun v => m1 - (intOf v).toNat)
        case atStart => exact ⟨0, by omega, rfl, by simp [sizesOk]⟩
        case round =>
          obtain ⟨k, hk, rfl, hok⟩ := hrel
          have HO := Lib.hid hok
          clear hok
          by_cases hlt : k < m1
          · have hlt2 : (k : Int) < (m1 : Int) := by omega
            obtain ⟨b, o, rfl, s0⟩ := HSz.out w3 HB3.out k hlt
            have HS := Lib.hid (fun h1 => sizes_succ (l := x.sizes) (k := k) h1 HO.out)
            have HSx := Lib.hid (fun h1 => sizes_stop (l := x.sizes) (k := k) h1)
            have hk2 : k < x.sizes.length := by rw [HM1.out]; exact hlt
            generalize x.sizes.getD k 0 = y at *
            by_cases y1 : y < 1
            · have HR := Lib.hid (show mb = false by rw [HE.out, HSx.out hk2 (by omega)]; rfl)
              go_wp2_with fail
              go_ret
              exact ⟨ret_bool HR.out.symm, HB3.out⟩
            · have y1' := decide_eq_false y1
              by_cases y2 : 1000 < y
              · have y2' := decide_eq_true y2
                have HR := Lib.hid (show mb = false by rw [HE.out, HSx.out hk2 (by omega)]; rfl)
                go_wp2_with fail
                go_ret
                exact ⟨ret_bool HR.out.symm, HB3.out⟩
              · have y2' := decide_eq_false y2
                have HR := Lib.hid (show sizesOk (x.sizes.take (k + 1)) = true by rw [HS.out hk2]; exact decide_eq_true (by omega))
                go_wp2_with fail
                go_round
                case rel => exact ⟨k + 1, by omega, by go_num, HR.out⟩
                case measure => simp [intOf]; omega
          · obtain rfl : m1 = k := by omega
            have hS : sizesOk x.sizes = true := by have h := HO.out; rw [← HM1.out, List.take_length] at h; exact h
            replace HE := Lib.hid (show mb = allTo (funAt g x) m2 by rw [HE.out, hS]; rfl)
            clear hS HO hlt
            go_wp2_with fail
            clear q0 q1 q2 p0 p1
            go_loopw [6] (fun i wr => ∃ k : Nat, k ≤ m2 ∧ i = .int .i64 k ∧ allTo (funAt g x) k = true ∧ Below w3.heap.size w3 wr) (fun i _ => m2 - (intOf i).toNat)
            case atStart => exact ⟨0, by omega, rfl, rfl, Below.refl _ _⟩
            case round =>
              obtain ⟨k, hk, rfl, hok, hb⟩ := hrel
              have HO := Lib.hid hok
              have HBd := Lib.hid hb.drew
              have HB := Lib.hid hb
              have e1 := (HG3.out.on hb).v1
              clear hok hb
              by_cases hkl : k < m2
              · have hkl2 : (k : Int) < (m2 : Int) := by omega
                have hkl3 : (k : Int) < (n2 : Int) := by have := HH.out.2; omega
                obtain ⟨f, hf⟩ : ∃ f, g.funs[k]? = some f := ⟨_, List.getElem?_eq_getElem (by omega)⟩
                obtain ⟨v, hv⟩ : ∃ v, x.funs[k]? = some v := ⟨_, List.getElem?_eq_getElem (by omega)⟩
                obtain ⟨fb0, fo, rfl, hfl, f0, f1, f2, f3, f4, f5⟩ := fun6_cells HFf.out (Below.refl _ _) hf
                obtain ⟨vb0, vo, Ar, cr, rfl, hvl, v0, v1, hrl, hels, hrb, hrc, hcm⟩ := funval_cells HFv.out (Below.refl _ _) hv
                have HRl := Lib.hid hrl
                have HEl := Lib.hid hels
                have HFr := Lib.hid (fun_len' HFf.out hf)
                have HA := Lib.hid (HAt.out k f v hf hv)
                have HAn := Lib.hid (HAs.out k)
                have HAz := Lib.hid (HAx.out k hkl)
                have HSt := Lib.hid (fun W (hW : Below w3.heap.size w3 W) => (show (fun W => (W.cell? ⟨w.heap.size, 1, none⟩ = some (.slice (some ⟨fb0, fo, none⟩) n2 c2) ∧ W.cell? ⟨w.heap.size + 1, 1, none⟩ = some (.slice (some ⟨vb0, vo, none⟩) m2 d2)) ∧ (W.cell? ⟨fb0, fo + k * 6, none⟩ = some (.string f.name) ∧ W.cell? ⟨fb0, fo + k * 6 + 1, none⟩ = some (.int .i64 f.len) ∧ W.cell? ⟨fb0, fo + k * 6 + 2, none⟩ = some (.int .i64 f.a0) ∧ W.cell? ⟨fb0, fo + k * 6 + 3, none⟩ = some (.int .i64 f.a1) ∧ W.cell? ⟨fb0, fo + k * 6 + 4, none⟩ = some (.int .i64 f.a2) ∧ W.cell? ⟨fb0, fo + k * 6 + 5, none⟩ = some (.int .i64 f.res)) ∧ (W.cell? ⟨vb0, vo + k * 2, none⟩ = some (.slice Ar v.rows.length cr) ∧ W.cell? ⟨vb0, vo + k * 2 + 1, none⟩ = some (.int .i64 v.els))) W from by
                  have hV := HB3.out.trans (hW.mono HB3.out.size)
                  exact ⟨⟨(HG3.out.on hW).g1, (HG3.out.on hW).v1⟩, ⟨((bcell hV).1 _ _ hfl).trans f0, ((bcell hV).1 _ _ hfl).trans f1, ((bcell hV).1 _ _ hfl).trans f2, ((bcell hV).1 _ _ hfl).trans f3, ((bcell hV).1 _ _ hfl).trans f4, ((bcell hV).1 _ _ hfl).trans f5⟩, ((bcell hV).1 _ _ hvl).trans v0, ((bcell hV).1 _ _ hvl).trans v1⟩))
                clear hf hv hrl hels f0 f1 f2 f3 f4 f5 v0 v1
                go_upto_region 11 with fail
                go_cut [7, 8] from 53 to 133 (fun vf vv W => FVCut w3 f Ar v.rows.length cr v.els vf vv W)
                case first =>
                  refine wp_region_held_drew (S := fun W => (W.cell? ⟨w.heap.size, 1, none⟩ = some (.slice (some ⟨fb0, fo, none⟩) n2 c2) ∧ W.cell? ⟨w.heap.size + 1, 1, none⟩ = some (.slice (some ⟨vb0, vo, none⟩) m2 d2)) ∧ (W.cell? ⟨fb0, fo + k * 6, none⟩ = some (.string f.name) ∧ W.cell? ⟨fb0, fo + k * 6 + 1, none⟩ = some (.int .i64 f.len) ∧ W.cell? ⟨fb0, fo + k * 6 + 2, none⟩ = some (.int .i64 f.a0) ∧ W.cell? ⟨fb0, fo + k * 6 + 3, none⟩ = some (.int .i64 f.a1) ∧ W.cell? ⟨fb0, fo + k * 6 + 4, none⟩ = some (.int .i64 f.a2) ∧ W.cell? ⟨fb0, fo + k * 6 + 5, none⟩ = some (.int .i64 f.res)) ∧ (W.cell? ⟨vb0, vo + k * 2, none⟩ = some (.slice Ar v.rows.length cr) ∧ W.cell? ⟨vb0, vo + k * 2 + 1, none⟩ = some (.int .i64 v.els))) (by kernel_rfl) (HSt.out _ HBd.out) (fun hHeld => ?_)
                  refine wpAnyH_take (i := 0) (oi := Oper.mk _ _ _ _ _ _) (v := ?_) rfl (by kernel_rfl) (by kernel_rfl) (by kernel_rfl) (fun _ _ _ h => h) (Or.inl ⟨by rfl, ?_⟩) (by assumption) ?_
                  rotate_left
                  · (intro w hSw; (try dsimp only at hSw); go_simp; try with_reducible rfl)
                  try simp only [Act.put, List.setIfInBounds_toArray, List.set_cons_zero, List.set_cons_succ]
                  refine wpAnyH_take (i := 1) (oi := Oper.mk _ _ _ _ _ _) (v := ?_) rfl (by kernel_rfl) (by kernel_rfl) (by kernel_rfl) (fun _ _ _ h => h) (Or.inl ⟨by rfl, ?_⟩) (by assumption) ?_
                  rotate_left
                  · (intro w hSw; (try dsimp only at hSw); go_simp; try with_reducible rfl)
                  try simp only [Act.put, List.setIfInBounds_toArray, List.set_cons_zero, List.set_cons_succ]
                  refine wpAnyH_take (i := 2) (oi := Oper.mk _ _ _ _ _ _) (v := ?_) rfl (by kernel_rfl) (by kernel_rfl) (by kernel_rfl) (fun _ _ _ h => h) (Or.inl ⟨by rfl, ?_⟩) (by assumption) ?_
                  rotate_left
                  · (intro w hSw; (try dsimp only at hSw); go_simp; try with_reducible rfl)
                  try simp only [Act.put, List.setIfInBounds_toArray, List.set_cons_zero, List.set_cons_succ]
                  refine wpAnyH_take (i := 3) (oi := Oper.mk _ _ _ _ _ _) (v := ?_) rfl (by kernel_rfl) (by kernel_rfl) (by kernel_rfl) (fun _ _ _ h => h) (Or.inl ⟨by rfl, ?_⟩) (by assumption) ?_
                  rotate_left
                  · (intro w hSw; (try dsimp only at hSw); go_simp; try with_reducible rfl)
                  try simp only [Act.put, List.setIfInBounds_toArray, List.set_cons_zero, List.set_cons_succ]
                  refine wpAnyH_take (i := 4) (oi := Oper.mk _ _ _ _ _ _) (v := ?_) rfl (by kernel_rfl) (by kernel_rfl) (by kernel_rfl) (fun _ _ _ h => h) (Or.inl ⟨by rfl, ?_⟩) (by assumption) ?_
                  rotate_left
                  · (intro w hSw; (try dsimp only at hSw); go_simp; try with_reducible rfl)
                  try simp only [Act.put, List.setIfInBounds_toArray, List.set_cons_zero, List.set_cons_succ]
                  refine wpAnyH_take (i := 5) (oi := Oper.mk _ _ _ _ _ _) (v := ?_) rfl (by kernel_rfl) (by kernel_rfl) (by kernel_rfl) (fun _ _ _ h => h) (Or.inl ⟨by rfl, ?_⟩) (by assumption) ?_
                  rotate_left
                  · (intro w hSw; (try dsimp only at hSw); go_simp; try with_reducible rfl)
                  try simp only [Act.put, List.setIfInBounds_toArray, List.set_cons_zero, List.set_cons_succ]
                  refine wpAnyH_take (i := 6) (oi := Oper.mk _ _ _ _ _ _) (v := ?_) rfl (by kernel_rfl) (by kernel_rfl) (by kernel_rfl) (fun _ _ _ h => h) (Or.inl ⟨by rfl, ?_⟩) (by assumption) ?_
                  rotate_left
                  · (intro w hSw; (try dsimp only at hSw); go_simp; try with_reducible rfl)
                  try simp only [Act.put, List.setIfInBounds_toArray, List.set_cons_zero, List.set_cons_succ]
                  refine wpAnyH_take (i := 7) (oi := Oper.mk _ _ _ _ _ _) (v := ?_) rfl (by kernel_rfl) (by kernel_rfl) (by kernel_rfl) (fun _ _ _ h => h) (Or.inl ⟨by rfl, ?_⟩) (by assumption) ?_
                  rotate_left
                  · (intro w hSw; (try dsimp only at hSw); go_simp; try with_reducible rfl)
                  try simp only [Act.put, List.setIfInBounds_toArray, List.set_cons_zero, List.set_cons_succ]
                  refine wpAnyH_take (i := 8) (oi := Oper.mk _ _ _ _ _ _) (v := ?_) rfl (by kernel_rfl) (by kernel_rfl) (by kernel_rfl) (fun _ _ _ h => h) (Or.inl ⟨by rfl, ?_⟩) (by assumption) ?_
                  rotate_left
                  · (intro w hSw; (try dsimp only at hSw); go_simp; try with_reducible rfl)
                  try simp only [Act.put, List.setIfInBounds_toArray, List.set_cons_zero, List.set_cons_succ]
                  refine wpAnyH_take (i := 9) (oi := Oper.mk _ _ _ _ _ _) (v := ?_) rfl (by kernel_rfl) (by kernel_rfl) (by kernel_rfl) (fun _ _ _ h => h) (Or.inl ⟨by rfl, ?_⟩) (by assumption) ?_
                  rotate_left
                  · (intro w hSw; (try dsimp only at hSw); go_simp; try with_reducible rfl)
                  try simp only [Act.put, List.setIfInBounds_toArray, List.set_cons_zero, List.set_cons_succ]
                  generalize hwd : World.drew _ = wd at *
                  clear hwd
                  refine wpAnyH_ready (rs := [10, 11]) (by kernel_rfl) (by simp) ?_
                  refine AllReadyH.cons (o := Oper.mk _ _ _ _ _ _) rfl (fun K hK => ?_) (AllReadyH.cons (o := Oper.mk _ _ _ _ _ _) rfl (fun K hK => ?_) AllReadyH.nil)
                  all_goals go_simp
                  all_goals refine hK.out _ _ (HSt.out _ (HBd.out.alloc HBd.out.size _)) (fun hHeld => ?_)
                  all_goals clear hK K
                  all_goals try simp only [Act.put, List.setIfInBounds_toArray, List.set_cons_zero, List.set_cons_succ]
                  · skip
                    refine wpAnyH_ready (rs := [11]) (by kernel_rfl) (by simp) ?_
                    refine AllReadyH.cons (o := Oper.mk _ _ _ _ _ _) rfl (fun K hK => ?_) AllReadyH.nil
                    go_simp
                    refine hK.out _ _ (HSt.out _ ((HBd.out.alloc HBd.out.size _).alloc (by have := HBd.out.size; simp; omega) _)) (fun hHeld => ?_)
                    clear hK K
                    try simp only [Act.put, List.setIfInBounds_toArray, List.set_cons_zero, List.set_cons_succ]
                    refine wpAnyH_ready (rs := [12]) (by kernel_rfl) (by simp) ?_
                    refine AllReadyH.cons (o := Oper.mk _ _ _ _ _ _) rfl (fun K hK => ?_) AllReadyH.nil
                    go_simp
                    refine hK.out _ _ (HSt.out _ ((HBd.out.alloc HBd.out.size _).alloc (by have := HBd.out.size; simp; omega) _)) (fun hHeld => ?_)
                    clear hK K
                    try simp only [Act.put, List.setIfInBounds_toArray, List.set_cons_zero, List.set_cons_succ]
                    refine wpAnyH_ready (rs := [13]) (by kernel_rfl) (by simp) ?_
                    refine AllReadyH.cons (o := Oper.mk _ _ _ _ _ _) rfl (fun K hK => ?_) AllReadyH.nil
                    go_simp
                    refine hK.out _ _ (HSt.out _ ((HBd.out.alloc HBd.out.size _).alloc (by have := HBd.out.size; simp; omega) _)) (fun hHeld => ?_)
                    clear hK K
                    try simp only [Act.put, List.setIfInBounds_toArray, List.set_cons_zero, List.set_cons_succ]
                    refine wpAnyH_done (by kernel_rfl) ?_ _
                    go_wp2_with fail
                    go_meet
                    exact ⟨_, _, rfl, rfl, fv_made1 wd f Ar v.rows.length cr v.els 72 56, (HBd.out.alloc HBd.out.size _).alloc (by have := HBd.out.size; simp; omega) _⟩
                  · skip
                    refine wpAnyH_ready (rs := [10]) (by kernel_rfl) (by simp) ?_
                    refine AllReadyH.cons (o := Oper.mk _ _ _ _ _ _) rfl (fun K hK => ?_) AllReadyH.nil
                    go_simp
                    refine hK.out _ _ (HSt.out _ ((HBd.out.alloc HBd.out.size _).alloc (by have := HBd.out.size; simp; omega) _)) (fun hHeld => ?_)
                    clear hK K
                    try simp only [Act.put, List.setIfInBounds_toArray, List.set_cons_zero, List.set_cons_succ]
                    refine wpAnyH_ready (rs := [12]) (by kernel_rfl) (by simp) ?_
                    refine AllReadyH.cons (o := Oper.mk _ _ _ _ _ _) rfl (fun K hK => ?_) AllReadyH.nil
                    go_simp
                    refine hK.out _ _ (HSt.out _ ((HBd.out.alloc HBd.out.size _).alloc (by have := HBd.out.size; simp; omega) _)) (fun hHeld => ?_)
                    clear hK K
                    try simp only [Act.put, List.setIfInBounds_toArray, List.set_cons_zero, List.set_cons_succ]
                    refine wpAnyH_ready (rs := [13]) (by kernel_rfl) (by simp) ?_
                    refine AllReadyH.cons (o := Oper.mk _ _ _ _ _ _) rfl (fun K hK => ?_) AllReadyH.nil
                    go_simp
                    refine hK.out _ _ (HSt.out _ ((HBd.out.alloc HBd.out.size _).alloc (by have := HBd.out.size; simp; omega) _)) (fun hHeld => ?_)
                    clear hK K
                    try simp only [Act.put, List.setIfInBounds_toArray, List.set_cons_zero, List.set_cons_succ]
                    refine wpAnyH_done (by kernel_rfl) ?_ _
                    go_wp2_with fail
                    go_meet
                    exact ⟨_, _, rfl, rfl, fv_made2 wd f Ar v.rows.length cr v.els 72 56, (HBd.out.alloc HBd.out.size _).alloc (by have := HBd.out.size; simp; omega) _⟩
                case rest =>
                  obtain ⟨fb, vb, rfl, rfl, hfv, hbc⟩ := hcut
                  have HV := Lib.hid hfv
                  have HBc := Lib.hid hbc
                  have HBw := Lib.hid (HB3.out.trans (hbc.mono HB3.out.size))
                  have HG := Lib.hid (HG3.out.on hbc)
                  clear hfv hbc HSt HBd HB e1
                  obtain ⟨g0, g1, g2, g3, g4, _, _⟩ := HG.out
                  have v0 := HV.out.v0
                  have v1 := HV.out.v1
                  have f5 := HV.out.f5
                  by_cases h400 : (400 : Int) < (v.rows.length : Int)
                  · have h400' := decide_eq_true h400
                    have HR := Lib.hid (show mb = false by rw [HE.out, HAz.out (by rw [HA.out, decide_eq_false (show ¬ v.rows.length ≤ 400 by omega)]; simp)])
                    go_wp2_with fail
                    go_ret
                    exact ⟨ret_bool HR.out.symm, HBw.out⟩
                  · have h400' := decide_eq_false h400
                    replace HA := Lib.hid (show funAt g x k = (onceB v.rows && (isB n1 x.sizes f.res v.els && v.rows.all (rowOk n1 x.sizes f))) by rw [HA.out, decide_eq_true (show v.rows.length ≤ 400 by omega)]; rfl)
                    have hcall := HIs.out wc HBw.out f.res v.els HEl.out
                    generalize hq : isB n1 x.sizes f.res v.els = q at *
                    clear hq
                    go_wp2_with fail
                    refine hcall.mono ?_
                    rintro e w5 ⟨rfl, hb5⟩
                    have HV5 := Lib.hid (HV.out.on hb5)
                    have HBc5 := Lib.hid (HBc.out.trans (hb5.mono HBc.out.size))
                    have HBw5 := Lib.hid (HBw.out.trans (hb5.mono HBw.out.size))
                    have HG5 := Lib.hid (HG.out.on hb5)
                    clear hb5 hcall g0 g1 g2 g3 g4 v0 v1 f5 HV HBc HBw HG
                    cases q with
                    | false =>
                      have HR := Lib.hid (show mb = false by rw [HE.out, HAz.out (by rw [HA.out]; simp)])
                      go_wp2_with fail
                      go_ret
                      exact ⟨ret_bool HR.out.symm, HBw5.out⟩
                    | true =>
                      replace HA := Lib.hid (show funAt g x k = (onceB v.rows && v.rows.all (rowOk n1 x.sizes f)) by rw [HA.out]; rfl)
                      go_wp2_with fail
                      go_loopw [9] (fun i wv => ∃ j : Nat, j ≤ v.rows.length ∧ i = .int .i64 j ∧ onceB (v.rows.take j) = true ∧ (v.rows.take j).all (rowOk n1 x.sizes f) = true ∧ Below w5.heap.size w5 wv) (fun i _ => v.rows.length - (intOf i).toNat)
                      case atStart => exact ⟨0, by omega, rfl, rfl, rfl, Below.refl _ _⟩
                      case round =>
                        obtain ⟨j, hj, rfl, hon, hok, hb⟩ := hrel
                        have HJ1 := Lib.hid hon
                        have HJ2 := Lib.hid hok
                        have HBj := Lib.hid hb
                        have HVj := Lib.hid (HV5.out.on hb)
                        have HGj := Lib.hid (HG5.out.on hb)
                        have HBwj := Lib.hid (HBw5.out.trans (hb.mono HBw5.out.size))
                        have v0 := HVj.out.v0
                        clear hon hok hb
                        by_cases hjl : j < v.rows.length
                        · have hjl2 : (j : Int) < (v.rows.length : Int) := by omega
                          obtain ⟨r, hr⟩ : ∃ r, v.rows[j]? = some r := ⟨_, List.getElem?_eq_getElem hjl⟩
                          obtain ⟨rb, ro, rfl, hrbl, _, _, _, _, hri, hrv⟩ := row_cells HRl.out (Below.refl _ _) hr
                          have HRc := Lib.hid (fun W (hW : Below w.heap.size w W) => row_cells' HRl.out hW hr)
                          have HS := Lib.hid (all_succ (p := rowOk n1 x.sizes f) hr HJ2.out)
                          have HSx := Lib.hid (fun h => all_stop (p := rowOk n1 x.sizes f) hr h)
                          have HRo := Lib.hid (show rowOk n1 x.sizes f r = (fitsB n1 x.sizes f (Row.args r) && isB n1 x.sizes f.res r.val) from rfl)
                          have HOn := Lib.hid (fun hn => once_succ hr HJ1.out hn)
                          have HHr := Lib.hid hr
                          have HSt := Lib.hid (fun W (hW : Below wr.heap.size wr W) => (show (fun W => (W.cell? ⟨w.heap.size, 0, none⟩ = some (.slice A1 n1 c1) ∧ W.cell? ⟨w.heap.size, 1, none⟩ = some (.slice (some ⟨fb0, fo, none⟩) n2 c2) ∧ W.cell? ⟨w.heap.size, 2, none⟩ = some (.slice A3 n3 c3) ∧ W.cell? ⟨w.heap.size + 1, 0, none⟩ = some (.slice B1 m1 d1) ∧ W.cell? ⟨w.heap.size + 1, 1, none⟩ = some (.slice (some ⟨vb0, vo, none⟩) m2 d2)) ∧ (W.cell? ⟨fb, 0, none⟩ = some (.string f.name) ∧ W.cell? ⟨fb, 1, none⟩ = some (.int .i64 f.len) ∧ W.cell? ⟨fb, 2, none⟩ = some (.int .i64 f.a0) ∧ W.cell? ⟨fb, 3, none⟩ = some (.int .i64 f.a1) ∧ W.cell? ⟨fb, 4, none⟩ = some (.int .i64 f.a2) ∧ W.cell? ⟨fb, 5, none⟩ = some (.int .i64 f.res) ∧ W.cell? ⟨vb, 0, none⟩ = some (.slice (some ⟨rb, ro, none⟩) v.rows.length cr)) ∧ (W.cell? ⟨rb, ro + j * 4, none⟩ = some (.int .i64 r.a0) ∧ W.cell? ⟨rb, ro + j * 4 + 1, none⟩ = some (.int .i64 r.a1) ∧ W.cell? ⟨rb, ro + j * 4 + 2, none⟩ = some (.int .i64 r.a2) ∧ W.cell? ⟨rb, ro + j * 4 + 3, none⟩ = some (.int .i64 r.val))) W from by
                            have hg := HGj.out.on hW
                            have hv := HVj.out.on hW
                            obtain ⟨r0, r1, r2, r3, _, _⟩ := HRc.out W (HBwj.out.trans (hW.mono HBwj.out.size))
                            exact ⟨⟨hg.g0, hg.g1, hg.g2, hg.v0, hg.v1⟩, ⟨hv.f0, hv.f1, hv.f2, hv.f3, hv.f4, hv.f5, hv.v0⟩, r0, r1, r2, r3⟩))
                          have HFc := Lib.hid (fun W (hW : Below wr.heap.size wr W) => HFt.out W (HBwj.out.trans (hW.mono HBwj.out.size)) f (Row.args r) hri)
                          have HIc := Lib.hid (fun W (hW : Below wr.heap.size wr W) => HIs.out W (HBwj.out.trans (hW.mono HBwj.out.size)) f.res r.val hrv)
                          clear hr hri hrv
                          generalize hq1 : fitsB n1 x.sizes f (Row.args r) = q1 at *
                          generalize hq2 : isB n1 x.sizes f.res r.val = q2 at *
                          clear hq1 hq2
                          go_wp2_with fail
                          refine wp_region_held_drew (S := fun W => (W.cell? ⟨w.heap.size, 0, none⟩ = some (.slice A1 n1 c1) ∧ W.cell? ⟨w.heap.size, 1, none⟩ = some (.slice (some ⟨fb0, fo, none⟩) n2 c2) ∧ W.cell? ⟨w.heap.size, 2, none⟩ = some (.slice A3 n3 c3) ∧ W.cell? ⟨w.heap.size + 1, 0, none⟩ = some (.slice B1 m1 d1) ∧ W.cell? ⟨w.heap.size + 1, 1, none⟩ = some (.slice (some ⟨vb0, vo, none⟩) m2 d2)) ∧ (W.cell? ⟨fb, 0, none⟩ = some (.string f.name) ∧ W.cell? ⟨fb, 1, none⟩ = some (.int .i64 f.len) ∧ W.cell? ⟨fb, 2, none⟩ = some (.int .i64 f.a0) ∧ W.cell? ⟨fb, 3, none⟩ = some (.int .i64 f.a1) ∧ W.cell? ⟨fb, 4, none⟩ = some (.int .i64 f.a2) ∧ W.cell? ⟨fb, 5, none⟩ = some (.int .i64 f.res) ∧ W.cell? ⟨vb, 0, none⟩ = some (.slice (some ⟨rb, ro, none⟩) v.rows.length cr)) ∧ (W.cell? ⟨rb, ro + j * 4, none⟩ = some (.int .i64 r.a0) ∧ W.cell? ⟨rb, ro + j * 4 + 1, none⟩ = some (.int .i64 r.a1) ∧ W.cell? ⟨rb, ro + j * 4 + 2, none⟩ = some (.int .i64 r.a2) ∧ W.cell? ⟨rb, ro + j * 4 + 3, none⟩ = some (.int .i64 r.val))) (by kernel_rfl) (HSt.out _ (Below.refl _ _).drew) (fun hHeld => ?_)
                          refine wpAnyH_take (i := 0) (oi := Oper.mk _ _ _ _ _ _) (v := ?_) rfl (by kernel_rfl) (by kernel_rfl) (by kernel_rfl) (fun _ _ _ h => h) (Or.inl ⟨by rfl, ?_⟩) (by assumption) ?_
                          rotate_left
                          · (intro w hSw; (try dsimp only at hSw); go_simp; try with_reducible rfl)
                          try simp only [Act.put, List.setIfInBounds_toArray, List.set_cons_zero, List.set_cons_succ]
                          refine wpAnyH_take (i := 1) (oi := Oper.mk _ _ _ _ _ _) (v := ?_) rfl (by kernel_rfl) (by kernel_rfl) (by kernel_rfl) (fun _ _ _ h => h) (Or.inl ⟨by rfl, ?_⟩) (by assumption) ?_
                          rotate_left
                          · (intro w hSw; (try dsimp only at hSw); go_simp; try with_reducible rfl)
                          try simp only [Act.put, List.setIfInBounds_toArray, List.set_cons_zero, List.set_cons_succ]
                          refine wpAnyH_take (i := 2) (oi := Oper.mk _ _ _ _ _ _) (v := ?_) rfl (by kernel_rfl) (by kernel_rfl) (by kernel_rfl) (fun _ _ _ h => h) (Or.inl ⟨by rfl, ?_⟩) (by assumption) ?_
                          rotate_left
                          · (intro w hSw; (try dsimp only at hSw); go_simp; try with_reducible rfl)
                          try simp only [Act.put, List.setIfInBounds_toArray, List.set_cons_zero, List.set_cons_succ]
                          refine wpAnyH_take (i := 3) (oi := Oper.mk _ _ _ _ _ _) (v := ?_) rfl (by kernel_rfl) (by kernel_rfl) (by kernel_rfl) (fun _ _ _ h => h) (Or.inl ⟨by rfl, ?_⟩) (by assumption) ?_
                          rotate_left
                          · (intro w hSw; (try dsimp only at hSw); go_simp; try with_reducible rfl)
                          try simp only [Act.put, List.setIfInBounds_toArray, List.set_cons_zero, List.set_cons_succ]
                          refine wpAnyH_take (i := 4) (oi := Oper.mk _ _ _ _ _ _) (v := ?_) rfl (by kernel_rfl) (by kernel_rfl) (by kernel_rfl) (fun _ _ _ h => h) (Or.inl ⟨by rfl, ?_⟩) (by assumption) ?_
                          rotate_left
                          · (intro w hSw; (try dsimp only at hSw); go_simp; try with_reducible rfl)
                          try simp only [Act.put, List.setIfInBounds_toArray, List.set_cons_zero, List.set_cons_succ]
                          refine wpAnyH_take (i := 5) (oi := Oper.mk _ _ _ _ _ _) (v := ?_) rfl (by kernel_rfl) (by kernel_rfl) (by kernel_rfl) (fun _ _ _ h => h) (Or.inl ⟨by rfl, ?_⟩) (by assumption) ?_
                          rotate_left
                          · (intro w hSw; (try dsimp only at hSw); go_simp; try with_reducible rfl)
                          try simp only [Act.put, List.setIfInBounds_toArray, List.set_cons_zero, List.set_cons_succ]
                          refine wpAnyH_take (i := 6) (oi := Oper.mk _ _ _ _ _ _) (v := ?_) rfl (by kernel_rfl) (by kernel_rfl) (by kernel_rfl) (fun _ _ _ h => h) (Or.inl ⟨by rfl, ?_⟩) (by assumption) ?_
                          rotate_left
                          · (intro w hSw; (try dsimp only at hSw); go_simp; try with_reducible rfl)
                          try simp only [Act.put, List.setIfInBounds_toArray, List.set_cons_zero, List.set_cons_succ]
                          refine wpAnyH_take (i := 7) (oi := Oper.mk _ _ _ _ _ _) (v := ?_) rfl (by kernel_rfl) (by kernel_rfl) (by kernel_rfl) (fun _ _ _ h => h) (Or.inl ⟨by rfl, ?_⟩) (by assumption) ?_
                          rotate_left
                          · (intro w hSw; (try dsimp only at hSw); go_simp; try with_reducible rfl)
                          try simp only [Act.put, List.setIfInBounds_toArray, List.set_cons_zero, List.set_cons_succ]
                          refine wpAnyH_take (i := 8) (oi := Oper.mk _ _ _ _ _ _) (v := ?_) rfl (by kernel_rfl) (by kernel_rfl) (by kernel_rfl) (fun _ _ _ h => h) (Or.inl ⟨by rfl, ?_⟩) (by assumption) ?_
                          rotate_left
                          · (intro w hSw; (try dsimp only at hSw); go_simp; try with_reducible rfl)
                          try simp only [Act.put, List.setIfInBounds_toArray, List.set_cons_zero, List.set_cons_succ]
                          refine wpAnyH_ready (rs := [9]) (by kernel_rfl) (by simp) ?_
                          refine AllReadyH.cons (o := Oper.mk _ _ _ _ _ _) rfl (fun K hK => ?_) AllReadyH.nil
                          go_simp
                          go_wp2_with (go_at_call 40; refine (HFc.out _ ?_).mono ?_; exact (Below.refl _ _).drew; rintro e w9 ⟨rfl, hb9⟩; have HD9 := Lib.hid ((Below.refl wr.heap.size wr).drew.trans hb9))
                          refine hK.out _ _ (HSt.out _ HD9.out) (fun hHeld => ?_)
                          clear hK K
                          try simp only [Act.put, List.setIfInBounds_toArray, List.set_cons_zero, List.set_cons_succ]
                          clear hb9
                          cases q1 with
                          | false =>
                            have HR := Lib.hid (show mb = false by rw [HE.out, HAz.out (by rw [HA.out, HSx.out (by rw [HRo.out]; rfl)]; simp)])
                            have HBd := Lib.hid (HBwj.out.trans (HD9.out.mono HBwj.out.size))
                            refine wpAnyH_take (i := 10) (oi := Oper.mk _ _ _ _ _ _) (v := ?_) rfl (by kernel_rfl) (by kernel_rfl) (by kernel_rfl) (fun _ _ _ h => h) (Or.inl ⟨by rfl, ?_⟩) (by assumption) ?_
                            rotate_left
                            · (intro w hSw; (try dsimp only at hSw); go_simp; try with_reducible rfl)
                            try simp only [Act.put, List.setIfInBounds_toArray, List.set_cons_zero, List.set_cons_succ]
                            refine wpAnyH_take (i := 11) (oi := Oper.mk _ _ _ _ _ _) (v := ?_) rfl (by kernel_rfl) (by kernel_rfl) (by kernel_rfl) (fun _ _ _ h => h) (Or.inl ⟨by rfl, ?_⟩) (by assumption) ?_
                            rotate_left
                            · (intro w hSw; (try dsimp only at hSw); go_simp; try with_reducible rfl)
                            try simp only [Act.put, List.setIfInBounds_toArray, List.set_cons_zero, List.set_cons_succ]
                            refine wpAnyH_take (i := 12) (oi := Oper.mk _ _ _ _ _ _) (v := undef) rfl (by kernel_rfl) (by kernel_rfl) (by kernel_rfl) (fun _ _ _ h => h) (Or.inr ⟨by rfl, rfl⟩) (by assumption) ?_
                            try simp only [Act.put, List.setIfInBounds_toArray, List.set_cons_zero, List.set_cons_succ]
                            refine wpAnyH_take (i := 13) (oi := Oper.mk _ _ _ _ _ _) (v := undef) rfl (by kernel_rfl) (by kernel_rfl) (by kernel_rfl) (fun _ _ _ h => h) (Or.inr ⟨by rfl, rfl⟩) (by assumption) ?_
                            try simp only [Act.put, List.setIfInBounds_toArray, List.set_cons_zero, List.set_cons_succ]
                            refine wpAnyH_take (i := 14) (oi := Oper.mk _ _ _ _ _ _) (v := undef) rfl (by kernel_rfl) (by kernel_rfl) (by kernel_rfl) (fun _ _ _ h => h) (Or.inr ⟨by rfl, rfl⟩) (by assumption) ?_
                            try simp only [Act.put, List.setIfInBounds_toArray, List.set_cons_zero, List.set_cons_succ]
                            refine wpAnyH_take (i := 15) (oi := Oper.mk _ _ _ _ _ _) (v := undef) rfl (by kernel_rfl) (by kernel_rfl) (by kernel_rfl) (fun _ _ _ h => h) (Or.inr ⟨by rfl, rfl⟩) (by assumption) ?_
                            try simp only [Act.put, List.setIfInBounds_toArray, List.set_cons_zero, List.set_cons_succ]
                            refine wpAnyH_take (i := 16) (oi := Oper.mk _ _ _ _ _ _) (v := undef) rfl (by kernel_rfl) (by kernel_rfl) (by kernel_rfl) (fun _ _ _ h => h) (Or.inr ⟨by rfl, rfl⟩) (by assumption) ?_
                            try simp only [Act.put, List.setIfInBounds_toArray, List.set_cons_zero, List.set_cons_succ]
                            refine wpAnyH_take (i := 17) (oi := Oper.mk _ _ _ _ _ _) (v := undef) rfl (by kernel_rfl) (by kernel_rfl) (by kernel_rfl) (fun _ _ _ h => h) (Or.inr ⟨by rfl, rfl⟩) (by assumption) ?_
                            try simp only [Act.put, List.setIfInBounds_toArray, List.set_cons_zero, List.set_cons_succ]
                            refine wpAnyH_take (i := 18) (oi := Oper.mk _ _ _ _ _ _) (v := undef) rfl (by kernel_rfl) (by kernel_rfl) (by kernel_rfl) (fun _ _ _ h => h) (Or.inr ⟨by rfl, rfl⟩) (by assumption) ?_
                            try simp only [Act.put, List.setIfInBounds_toArray, List.set_cons_zero, List.set_cons_succ]
                            refine wpAnyH_take (i := 19) (oi := Oper.mk _ _ _ _ _ _) (v := undef) rfl (by kernel_rfl) (by kernel_rfl) (by kernel_rfl) (fun _ _ _ h => h) (Or.inr ⟨by rfl, rfl⟩) (by assumption) ?_
                            try simp only [Act.put, List.setIfInBounds_toArray, List.set_cons_zero, List.set_cons_succ]
                            refine wpAnyH_take (i := 20) (oi := Oper.mk _ _ _ _ _ _) (v := undef) rfl (by kernel_rfl) (by kernel_rfl) (by kernel_rfl) (fun _ _ _ h => h) (Or.inr ⟨by rfl, rfl⟩) (by assumption) ?_
                            try simp only [Act.put, List.setIfInBounds_toArray, List.set_cons_zero, List.set_cons_succ]
                            refine wpAnyH_take (i := 21) (oi := Oper.mk _ _ _ _ _ _) (v := undef) rfl (by kernel_rfl) (by kernel_rfl) (by kernel_rfl) (fun _ _ _ h => h) (Or.inr ⟨by rfl, rfl⟩) (by assumption) ?_
                            try simp only [Act.put, List.setIfInBounds_toArray, List.set_cons_zero, List.set_cons_succ]
                            refine wpAnyH_take (i := 22) (oi := Oper.mk _ _ _ _ _ _) (v := undef) rfl (by kernel_rfl) (by kernel_rfl) (by kernel_rfl) (fun _ _ _ h => h) (Or.inr ⟨by rfl, rfl⟩) (by assumption) ?_
                            try simp only [Act.put, List.setIfInBounds_toArray, List.set_cons_zero, List.set_cons_succ]
                            refine wpAnyH_take (i := 23) (oi := Oper.mk _ _ _ _ _ _) (v := undef) rfl (by kernel_rfl) (by kernel_rfl) (by kernel_rfl) (fun _ _ _ h => h) (Or.inr ⟨by rfl, rfl⟩) (by assumption) ?_
                            try simp only [Act.put, List.setIfInBounds_toArray, List.set_cons_zero, List.set_cons_succ]
                            refine wpAnyH_take (i := 24) (oi := Oper.mk _ _ _ _ _ _) (v := ?_) rfl (by kernel_rfl) (by kernel_rfl) (by kernel_rfl) (fun _ _ _ h => h) (Or.inl ⟨by rfl, ?_⟩) (by assumption) ?_
                            rotate_left
                            · (intro w hSw; (try dsimp only at hSw); go_simp; try with_reducible rfl)
                            try simp only [Act.put, List.setIfInBounds_toArray, List.set_cons_zero, List.set_cons_succ]
                            refine wpAnyH_done (by kernel_rfl) ?_ _
                            go_wp2_with fail
                            go_ret
                            exact ⟨ret_bool HR.out.symm, HBd.out⟩
                          | true =>
                            refine wpAnyH_take (i := 10) (oi := Oper.mk _ _ _ _ _ _) (v := ?_) rfl (by kernel_rfl) (by kernel_rfl) (by kernel_rfl) (fun _ _ _ h => h) (Or.inl ⟨by rfl, ?_⟩) (by assumption) ?_
                            rotate_left
                            · (intro w hSw; (try dsimp only at hSw); go_simp; try with_reducible rfl)
                            try simp only [Act.put, List.setIfInBounds_toArray, List.set_cons_zero, List.set_cons_succ]
                            refine wpAnyH_take (i := 11) (oi := Oper.mk _ _ _ _ _ _) (v := ?_) rfl (by kernel_rfl) (by kernel_rfl) (by kernel_rfl) (fun _ _ _ h => h) (Or.inl ⟨by rfl, ?_⟩) (by assumption) ?_
                            rotate_left
                            · (intro w hSw; (try dsimp only at hSw); go_simp; try with_reducible rfl)
                            try simp only [Act.put, List.setIfInBounds_toArray, List.set_cons_zero, List.set_cons_succ]
                            refine wpAnyH_take (i := 12) (oi := Oper.mk _ _ _ _ _ _) (v := ?_) rfl (by kernel_rfl) (by kernel_rfl) (by kernel_rfl) (fun _ _ _ h => h) (Or.inl ⟨by rfl, ?_⟩) (by assumption) ?_
                            rotate_left
                            · (intro w hSw; (try dsimp only at hSw); go_simp; try with_reducible rfl)
                            try simp only [Act.put, List.setIfInBounds_toArray, List.set_cons_zero, List.set_cons_succ]
                            refine wpAnyH_take (i := 13) (oi := Oper.mk _ _ _ _ _ _) (v := ?_) rfl (by kernel_rfl) (by kernel_rfl) (by kernel_rfl) (fun _ _ _ h => h) (Or.inl ⟨by rfl, ?_⟩) (by assumption) ?_
                            rotate_left
                            · (intro w hSw; (try dsimp only at hSw); go_simp; try with_reducible rfl)
                            try simp only [Act.put, List.setIfInBounds_toArray, List.set_cons_zero, List.set_cons_succ]
                            refine wpAnyH_take (i := 14) (oi := Oper.mk _ _ _ _ _ _) (v := ?_) rfl (by kernel_rfl) (by kernel_rfl) (by kernel_rfl) (fun _ _ _ h => h) (Or.inl ⟨by rfl, ?_⟩) (by assumption) ?_
                            rotate_left
                            · (intro w hSw; (try dsimp only at hSw); go_simp; try with_reducible rfl)
                            try simp only [Act.put, List.setIfInBounds_toArray, List.set_cons_zero, List.set_cons_succ]
                            refine wpAnyH_take (i := 15) (oi := Oper.mk _ _ _ _ _ _) (v := ?_) rfl (by kernel_rfl) (by kernel_rfl) (by kernel_rfl) (fun _ _ _ h => h) (Or.inl ⟨by rfl, ?_⟩) (by assumption) ?_
                            rotate_left
                            · (intro w hSw; (try dsimp only at hSw); go_simp; try with_reducible rfl)
                            try simp only [Act.put, List.setIfInBounds_toArray, List.set_cons_zero, List.set_cons_succ]
                            refine wpAnyH_take (i := 16) (oi := Oper.mk _ _ _ _ _ _) (v := ?_) rfl (by kernel_rfl) (by kernel_rfl) (by kernel_rfl) (fun _ _ _ h => h) (Or.inl ⟨by rfl, ?_⟩) (by assumption) ?_
                            rotate_left
                            · (intro w hSw; (try dsimp only at hSw); go_simp; try with_reducible rfl)
                            try simp only [Act.put, List.setIfInBounds_toArray, List.set_cons_zero, List.set_cons_succ]
                            refine wpAnyH_take (i := 17) (oi := Oper.mk _ _ _ _ _ _) (v := ?_) rfl (by kernel_rfl) (by kernel_rfl) (by kernel_rfl) (fun _ _ _ h => h) (Or.inl ⟨by rfl, ?_⟩) (by assumption) ?_
                            rotate_left
                            · (intro w hSw; (try dsimp only at hSw); go_simp; try with_reducible rfl)
                            try simp only [Act.put, List.setIfInBounds_toArray, List.set_cons_zero, List.set_cons_succ]
                            refine wpAnyH_take (i := 18) (oi := Oper.mk _ _ _ _ _ _) (v := ?_) rfl (by kernel_rfl) (by kernel_rfl) (by kernel_rfl) (fun _ _ _ h => h) (Or.inl ⟨by rfl, ?_⟩) (by assumption) ?_
                            rotate_left
                            · (intro w hSw; (try dsimp only at hSw); go_simp; try with_reducible rfl)
                            try simp only [Act.put, List.setIfInBounds_toArray, List.set_cons_zero, List.set_cons_succ]
                            refine wpAnyH_take (i := 19) (oi := Oper.mk _ _ _ _ _ _) (v := ?_) rfl (by kernel_rfl) (by kernel_rfl) (by kernel_rfl) (fun _ _ _ h => h) (Or.inl ⟨by rfl, ?_⟩) (by assumption) ?_
                            rotate_left
                            · (intro w hSw; (try dsimp only at hSw); go_simp; try with_reducible rfl)
                            try simp only [Act.put, List.setIfInBounds_toArray, List.set_cons_zero, List.set_cons_succ]
                            refine wpAnyH_take (i := 20) (oi := Oper.mk _ _ _ _ _ _) (v := ?_) rfl (by kernel_rfl) (by kernel_rfl) (by kernel_rfl) (fun _ _ _ h => h) (Or.inl ⟨by rfl, ?_⟩) (by assumption) ?_
                            rotate_left
                            · (intro w hSw; (try dsimp only at hSw); go_simp; try with_reducible rfl)
                            try simp only [Act.put, List.setIfInBounds_toArray, List.set_cons_zero, List.set_cons_succ]
                            refine wpAnyH_take (i := 21) (oi := Oper.mk _ _ _ _ _ _) (v := ?_) rfl (by kernel_rfl) (by kernel_rfl) (by kernel_rfl) (fun _ _ _ h => h) (Or.inl ⟨by rfl, ?_⟩) (by assumption) ?_
                            rotate_left
                            · (intro w hSw; (try dsimp only at hSw); go_simp; try with_reducible rfl)
                            try simp only [Act.put, List.setIfInBounds_toArray, List.set_cons_zero, List.set_cons_succ]
                            refine wpAnyH_ready (rs := [22]) (by kernel_rfl) (by simp) ?_
                            refine AllReadyH.cons (o := Oper.mk _ _ _ _ _ _) rfl (fun K hK => ?_) AllReadyH.nil
                            go_simp
                            go_wp2_with (go_at_call 15; refine (HIc.out _ ?_).mono ?_; exact HD9.out; rintro e w10 ⟨rfl, hb10⟩; have HD10 := Lib.hid (HD9.out.trans (hb10.mono HD9.out.size)))
                            refine hK.out _ _ (HSt.out _ HD10.out) (fun hHeld => ?_)
                            clear hK K
                            try simp only [Act.put, List.setIfInBounds_toArray, List.set_cons_zero, List.set_cons_succ]
                            clear hb10
                            cases q2 with
                            | false =>
                              refine wpAnyH_take (i := 23) (oi := Oper.mk _ _ _ _ _ _) (v := ?_) rfl (by kernel_rfl) (by kernel_rfl) (by kernel_rfl) (fun _ _ _ h => h) (Or.inl ⟨by rfl, ?_⟩) (by assumption) ?_
                              rotate_left
                              · (intro w hSw; (try dsimp only at hSw); go_simp; try with_reducible rfl)
                              try simp only [Act.put, List.setIfInBounds_toArray, List.set_cons_zero, List.set_cons_succ]
                              refine wpAnyH_take (i := 24) (oi := Oper.mk _ _ _ _ _ _) (v := ?_) rfl (by kernel_rfl) (by kernel_rfl) (by kernel_rfl) (fun _ _ _ h => h) (Or.inl ⟨by rfl, ?_⟩) (by assumption) ?_
                              rotate_left
                              · (intro w hSw; (try dsimp only at hSw); go_simp; try with_reducible rfl)
                              try simp only [Act.put, List.setIfInBounds_toArray, List.set_cons_zero, List.set_cons_succ]
                              refine wpAnyH_done (by kernel_rfl) ?_ _
                              have HR := Lib.hid (show mb = false by rw [HE.out, HAz.out (by rw [HA.out, HSx.out (by rw [HRo.out]; rfl)]; simp)])
                              have HBd := Lib.hid (HBwj.out.trans (HD10.out.mono HBwj.out.size))
                              go_wp2_with fail
                              go_ret
                              exact ⟨ret_bool HR.out.symm, HBd.out⟩
                            | true =>
                              refine wpAnyH_take (i := 23) (oi := Oper.mk _ _ _ _ _ _) (v := ?_) rfl (by kernel_rfl) (by kernel_rfl) (by kernel_rfl) (fun _ _ _ h => h) (Or.inl ⟨by rfl, ?_⟩) (by assumption) ?_
                              rotate_left
                              · (intro w hSw; (try dsimp only at hSw); go_simp; try with_reducible rfl)
                              try simp only [Act.put, List.setIfInBounds_toArray, List.set_cons_zero, List.set_cons_succ]
                              refine wpAnyH_take (i := 24) (oi := Oper.mk _ _ _ _ _ _) (v := ?_) rfl (by kernel_rfl) (by kernel_rfl) (by kernel_rfl) (fun _ _ _ h => h) (Or.inl ⟨by rfl, ?_⟩) (by assumption) ?_
                              rotate_left
                              · (intro w hSw; (try dsimp only at hSw); go_simp; try with_reducible rfl)
                              try simp only [Act.put, List.setIfInBounds_toArray, List.set_cons_zero, List.set_cons_succ]
                              refine wpAnyH_done (by kernel_rfl) ?_ _
                              have HR := Lib.hid (HS.out.trans HRo.out)
                              have HBk := Lib.hid (HBj.out.trans (HD10.out.mono HBj.out.size))
                              have HBwk := Lib.hid (HBwj.out.trans (HD10.out.mono HBwj.out.size))
                              have HVk := Lib.hid (HVj.out.on HD10.out)
                              clear HSt HFc HIc HS HSx HRo HD9 HD10 HBj HBwj HGj HVj hHeld v0
                              go_wp2_with fail
                              go_loopw [10] (fun i wx => ∃ i' : Nat, i' ≤ j ∧ i = .int .i64 i' ∧ otherTo v.rows r i' ∧ Below w10.heap.size w10 wx) (fun i _ => j - (intOf i).toNat)
                              case atStart => exact ⟨0, by omega, rfl, other_zero _ _, Below.refl _ _⟩
                              case round =>
                                obtain ⟨i, hi, rfl, hot, hb⟩ := hrel
                                have HT2 := Lib.hid hot
                                have HBi := Lib.hid hb
                                have HVi := Lib.hid (HVk.out.on hb)
                                have HBwi := Lib.hid (HBwk.out.trans (hb.mono HBwk.out.size))
                                clear hot hb
                                by_cases hil : i < j
                                · have hil2 : (i : Int) < (j : Int) := by omega
                                  have hil3 : (i : Int) < (v.rows.length : Int) := by omega
                                  obtain ⟨q, hq⟩ : ∃ q, v.rows[i]? = some q := ⟨_, List.getElem?_eq_getElem (by omega)⟩
                                  obtain ⟨y0, y1, y2, _, _, _⟩ := row_cells' HRl.out HBwi.out.drew hq
                                  obtain ⟨r0, r1, r2, _, _, _⟩ := row_cells' HRl.out HBwi.out.drew HHr.out
                                  have v0 := (HVi.out.on (Below.refl _ _).drew).v0
                                  have HQ1 := Lib.hid (fun h => other_succ HT2.out hq h)
                                  have HQ2 := Lib.hid (fun h => once_stop hil hq HHr.out h)
                                  have HEq := Lib.hid (show ∀ W, (Op.equalIn 10000 58 (.agg #[.int .i64 q.a0, .int .i64 q.a1, .int .i64 q.a2]) (.agg #[.int .i64 r.a0, .int .i64 r.a1, .int .i64 r.a2])).run Tryz.prog W = .ok (eqB (Row.args q) (Row.args r)) W from fun W => a3_eqIn 9998 (Row.args q) (Row.args r) W)
                                  clear hq
                                  by_cases he : Row.args q = Row.args r
                                  · have heq := HEq.out
                                    rw [eqB_true.2 he] at heq
                                    have HR2 := Lib.hid (show mb = false by rw [HE.out, HAz.out (by rw [HA.out, HQ2.out he]; rfl)])
                                    clear he HEq
                                    go_wp2_with fail
                                    refine wp_region_held_drew (S := fun W => W.cell? ⟨vb, 0, none⟩ = some (.slice (some ⟨rb, ro, none⟩) v.rows.length cr) ∧ (W.cell? ⟨rb, ro + i * 4, none⟩ = some (.int .i64 q.a0) ∧ W.cell? ⟨rb, ro + i * 4 + 1, none⟩ = some (.int .i64 q.a1) ∧ W.cell? ⟨rb, ro + i * 4 + 2, none⟩ = some (.int .i64 q.a2)) ∧ (W.cell? ⟨rb, ro + j * 4, none⟩ = some (.int .i64 r.a0) ∧ W.cell? ⟨rb, ro + j * 4 + 1, none⟩ = some (.int .i64 r.a1) ∧ W.cell? ⟨rb, ro + j * 4 + 2, none⟩ = some (.int .i64 r.a2))) (by kernel_rfl) (⟨v0, ⟨y0, y1, y2⟩, r0, r1, r2⟩) (fun hHeld => ?_)
                                    refine wpAnyH_take (i := 0) (oi := Oper.mk _ _ _ _ _ _) (v := ?_) rfl (by kernel_rfl) (by kernel_rfl) (by kernel_rfl) (fun _ _ _ h => h) (Or.inl ⟨by rfl, ?_⟩) (by assumption) ?_
                                    rotate_left
                                    · (intro w hSw; (try dsimp only at hSw); go_simp; try with_reducible rfl)
                                    try simp only [Act.put, List.setIfInBounds_toArray, List.set_cons_zero, List.set_cons_succ]
                                    refine wpAnyH_take (i := 1) (oi := Oper.mk _ _ _ _ _ _) (v := ?_) rfl (by kernel_rfl) (by kernel_rfl) (by kernel_rfl) (fun _ _ _ h => h) (Or.inl ⟨by rfl, ?_⟩) (by assumption) ?_
                                    rotate_left
                                    · (intro w hSw; (try dsimp only at hSw); go_simp; try with_reducible rfl)
                                    try simp only [Act.put, List.setIfInBounds_toArray, List.set_cons_zero, List.set_cons_succ]
                                    refine wpAnyH_take (i := 2) (oi := Oper.mk _ _ _ _ _ _) (v := ?_) rfl (by kernel_rfl) (by kernel_rfl) (by kernel_rfl) (fun _ _ _ h => h) (Or.inl ⟨by rfl, ?_⟩) (by assumption) ?_
                                    rotate_left
                                    · (intro w hSw; (try dsimp only at hSw); go_simp; try with_reducible rfl)
                                    try simp only [Act.put, List.setIfInBounds_toArray, List.set_cons_zero, List.set_cons_succ]
                                    refine wpAnyH_take (i := 3) (oi := Oper.mk _ _ _ _ _ _) (v := ?_) rfl (by kernel_rfl) (by kernel_rfl) (by kernel_rfl) (fun _ _ _ h => h) (Or.inl ⟨by rfl, ?_⟩) (by assumption) ?_
                                    rotate_left
                                    · (intro w hSw; (try dsimp only at hSw); go_simp; try with_reducible rfl)
                                    try simp only [Act.put, List.setIfInBounds_toArray, List.set_cons_zero, List.set_cons_succ]
                                    refine wpAnyH_take (i := 4) (oi := Oper.mk _ _ _ _ _ _) (v := ?_) rfl (by kernel_rfl) (by kernel_rfl) (by kernel_rfl) (fun _ _ _ h => h) (Or.inl ⟨by rfl, ?_⟩) (by assumption) ?_
                                    rotate_left
                                    · (intro w hSw; (try dsimp only at hSw); go_simp; try with_reducible rfl)
                                    try simp only [Act.put, List.setIfInBounds_toArray, List.set_cons_zero, List.set_cons_succ]
                                    refine wpAnyH_take (i := 5) (oi := Oper.mk _ _ _ _ _ _) (v := ?_) rfl (by kernel_rfl) (by kernel_rfl) (by kernel_rfl) (fun _ _ _ h => h) (Or.inl ⟨by rfl, ?_⟩) (by assumption) ?_
                                    rotate_left
                                    · (intro w hSw; (try dsimp only at hSw); go_simp; try with_reducible rfl)
                                    try simp only [Act.put, List.setIfInBounds_toArray, List.set_cons_zero, List.set_cons_succ]
                                    refine wpAnyH_take (i := 6) (oi := Oper.mk _ _ _ _ _ _) (v := ?_) rfl (by kernel_rfl) (by kernel_rfl) (by kernel_rfl) (fun _ _ _ h => h) (Or.inl ⟨by rfl, ?_⟩) (by assumption) ?_
                                    rotate_left
                                    · (intro w hSw; (try dsimp only at hSw); go_simp; try with_reducible rfl)
                                    try simp only [Act.put, List.setIfInBounds_toArray, List.set_cons_zero, List.set_cons_succ]
                                    refine wpAnyH_take (i := 7) (oi := Oper.mk _ _ _ _ _ _) (v := ?_) rfl (by kernel_rfl) (by kernel_rfl) (by kernel_rfl) (fun _ _ _ h => h) (Or.inl ⟨by rfl, ?_⟩) (by assumption) ?_
                                    rotate_left
                                    · (intro w hSw; (try dsimp only at hSw); go_simp; try with_reducible rfl)
                                    try simp only [Act.put, List.setIfInBounds_toArray, List.set_cons_zero, List.set_cons_succ]
                                    refine wpAnyH_take (i := 8) (oi := Oper.mk _ _ _ _ _ _) (v := ?_) rfl (by kernel_rfl) (by kernel_rfl) (by kernel_rfl) (fun _ _ _ h => h) (Or.inl ⟨by rfl, ?_⟩) (by assumption) ?_
                                    rotate_left
                                    · (intro w hSw; (try dsimp only at hSw); go_simp; try with_reducible rfl)
                                    try simp only [Act.put, List.setIfInBounds_toArray, List.set_cons_zero, List.set_cons_succ]
                                    refine wpAnyH_take (i := 9) (oi := Oper.mk _ _ _ _ _ _) (v := ?_) rfl (by kernel_rfl) (by kernel_rfl) (by kernel_rfl) (fun _ _ _ h => h) (Or.inl ⟨by rfl, ?_⟩) (by assumption) ?_
                                    rotate_left
                                    · (intro w hSw; (try dsimp only at hSw); go_simp; try with_reducible rfl)
                                    try simp only [Act.put, List.setIfInBounds_toArray, List.set_cons_zero, List.set_cons_succ]
                                    refine wpAnyH_take (i := 10) (oi := Oper.mk _ _ _ _ _ _) (v := ?_) rfl (by kernel_rfl) (by kernel_rfl) (by kernel_rfl) (fun _ _ _ h => h) (Or.inl ⟨by rfl, ?_⟩) (by assumption) ?_
                                    rotate_left
                                    · (intro w hSw; (try dsimp only at hSw); go_simp; try with_reducible rfl)
                                    try simp only [Act.put, List.setIfInBounds_toArray, List.set_cons_zero, List.set_cons_succ]
                                    refine wpAnyH_take (i := 11) (oi := Oper.mk _ _ _ _ _ _) (v := ?_) rfl (by kernel_rfl) (by kernel_rfl) (by kernel_rfl) (fun _ _ _ h => h) (Or.inl ⟨by rfl, ?_⟩) (by assumption) ?_
                                    rotate_left
                                    · (intro w hSw; (try dsimp only at hSw); go_simp; try with_reducible rfl)
                                    try simp only [Act.put, List.setIfInBounds_toArray, List.set_cons_zero, List.set_cons_succ]
                                    refine wpAnyH_take (i := 12) (oi := Oper.mk _ _ _ _ _ _) (v := ?_) rfl (by kernel_rfl) (by kernel_rfl) (by kernel_rfl) (fun _ _ _ h => h) (Or.inl ⟨by rfl, ?_⟩) (by assumption) ?_
                                    rotate_left
                                    · (intro w hSw; (try dsimp only at hSw); go_simp; try with_reducible rfl)
                                    try simp only [Act.put, List.setIfInBounds_toArray, List.set_cons_zero, List.set_cons_succ]
                                    refine wpAnyH_done (by kernel_rfl) ?_ _
                                    go_wp2_with fail
                                    go_ret
                                    exact ⟨ret_bool HR2.out.symm, HBwi.out.drew⟩
                                  · have heq := HEq.out
                                    rw [eqB_false.2 he] at heq
                                    have HR2 := Lib.hid (HQ1.out he)
                                    clear he HEq
                                    go_wp2_with fail
                                    refine wp_region_held_drew (S := fun W => W.cell? ⟨vb, 0, none⟩ = some (.slice (some ⟨rb, ro, none⟩) v.rows.length cr) ∧ (W.cell? ⟨rb, ro + i * 4, none⟩ = some (.int .i64 q.a0) ∧ W.cell? ⟨rb, ro + i * 4 + 1, none⟩ = some (.int .i64 q.a1) ∧ W.cell? ⟨rb, ro + i * 4 + 2, none⟩ = some (.int .i64 q.a2)) ∧ (W.cell? ⟨rb, ro + j * 4, none⟩ = some (.int .i64 r.a0) ∧ W.cell? ⟨rb, ro + j * 4 + 1, none⟩ = some (.int .i64 r.a1) ∧ W.cell? ⟨rb, ro + j * 4 + 2, none⟩ = some (.int .i64 r.a2))) (by kernel_rfl) (⟨v0, ⟨y0, y1, y2⟩, r0, r1, r2⟩) (fun hHeld => ?_)
                                    refine wpAnyH_take (i := 0) (oi := Oper.mk _ _ _ _ _ _) (v := ?_) rfl (by kernel_rfl) (by kernel_rfl) (by kernel_rfl) (fun _ _ _ h => h) (Or.inl ⟨by rfl, ?_⟩) (by assumption) ?_
                                    rotate_left
                                    · (intro w hSw; (try dsimp only at hSw); go_simp; try with_reducible rfl)
                                    try simp only [Act.put, List.setIfInBounds_toArray, List.set_cons_zero, List.set_cons_succ]
                                    refine wpAnyH_take (i := 1) (oi := Oper.mk _ _ _ _ _ _) (v := ?_) rfl (by kernel_rfl) (by kernel_rfl) (by kernel_rfl) (fun _ _ _ h => h) (Or.inl ⟨by rfl, ?_⟩) (by assumption) ?_
                                    rotate_left
                                    · (intro w hSw; (try dsimp only at hSw); go_simp; try with_reducible rfl)
                                    try simp only [Act.put, List.setIfInBounds_toArray, List.set_cons_zero, List.set_cons_succ]
                                    refine wpAnyH_take (i := 2) (oi := Oper.mk _ _ _ _ _ _) (v := ?_) rfl (by kernel_rfl) (by kernel_rfl) (by kernel_rfl) (fun _ _ _ h => h) (Or.inl ⟨by rfl, ?_⟩) (by assumption) ?_
                                    rotate_left
                                    · (intro w hSw; (try dsimp only at hSw); go_simp; try with_reducible rfl)
                                    try simp only [Act.put, List.setIfInBounds_toArray, List.set_cons_zero, List.set_cons_succ]
                                    refine wpAnyH_take (i := 3) (oi := Oper.mk _ _ _ _ _ _) (v := ?_) rfl (by kernel_rfl) (by kernel_rfl) (by kernel_rfl) (fun _ _ _ h => h) (Or.inl ⟨by rfl, ?_⟩) (by assumption) ?_
                                    rotate_left
                                    · (intro w hSw; (try dsimp only at hSw); go_simp; try with_reducible rfl)
                                    try simp only [Act.put, List.setIfInBounds_toArray, List.set_cons_zero, List.set_cons_succ]
                                    refine wpAnyH_take (i := 4) (oi := Oper.mk _ _ _ _ _ _) (v := ?_) rfl (by kernel_rfl) (by kernel_rfl) (by kernel_rfl) (fun _ _ _ h => h) (Or.inl ⟨by rfl, ?_⟩) (by assumption) ?_
                                    rotate_left
                                    · (intro w hSw; (try dsimp only at hSw); go_simp; try with_reducible rfl)
                                    try simp only [Act.put, List.setIfInBounds_toArray, List.set_cons_zero, List.set_cons_succ]
                                    refine wpAnyH_take (i := 5) (oi := Oper.mk _ _ _ _ _ _) (v := ?_) rfl (by kernel_rfl) (by kernel_rfl) (by kernel_rfl) (fun _ _ _ h => h) (Or.inl ⟨by rfl, ?_⟩) (by assumption) ?_
                                    rotate_left
                                    · (intro w hSw; (try dsimp only at hSw); go_simp; try with_reducible rfl)
                                    try simp only [Act.put, List.setIfInBounds_toArray, List.set_cons_zero, List.set_cons_succ]
                                    refine wpAnyH_take (i := 6) (oi := Oper.mk _ _ _ _ _ _) (v := ?_) rfl (by kernel_rfl) (by kernel_rfl) (by kernel_rfl) (fun _ _ _ h => h) (Or.inl ⟨by rfl, ?_⟩) (by assumption) ?_
                                    rotate_left
                                    · (intro w hSw; (try dsimp only at hSw); go_simp; try with_reducible rfl)
                                    try simp only [Act.put, List.setIfInBounds_toArray, List.set_cons_zero, List.set_cons_succ]
                                    refine wpAnyH_take (i := 7) (oi := Oper.mk _ _ _ _ _ _) (v := ?_) rfl (by kernel_rfl) (by kernel_rfl) (by kernel_rfl) (fun _ _ _ h => h) (Or.inl ⟨by rfl, ?_⟩) (by assumption) ?_
                                    rotate_left
                                    · (intro w hSw; (try dsimp only at hSw); go_simp; try with_reducible rfl)
                                    try simp only [Act.put, List.setIfInBounds_toArray, List.set_cons_zero, List.set_cons_succ]
                                    refine wpAnyH_take (i := 8) (oi := Oper.mk _ _ _ _ _ _) (v := ?_) rfl (by kernel_rfl) (by kernel_rfl) (by kernel_rfl) (fun _ _ _ h => h) (Or.inl ⟨by rfl, ?_⟩) (by assumption) ?_
                                    rotate_left
                                    · (intro w hSw; (try dsimp only at hSw); go_simp; try with_reducible rfl)
                                    try simp only [Act.put, List.setIfInBounds_toArray, List.set_cons_zero, List.set_cons_succ]
                                    refine wpAnyH_take (i := 9) (oi := Oper.mk _ _ _ _ _ _) (v := ?_) rfl (by kernel_rfl) (by kernel_rfl) (by kernel_rfl) (fun _ _ _ h => h) (Or.inl ⟨by rfl, ?_⟩) (by assumption) ?_
                                    rotate_left
                                    · (intro w hSw; (try dsimp only at hSw); go_simp; try with_reducible rfl)
                                    try simp only [Act.put, List.setIfInBounds_toArray, List.set_cons_zero, List.set_cons_succ]
                                    refine wpAnyH_take (i := 10) (oi := Oper.mk _ _ _ _ _ _) (v := ?_) rfl (by kernel_rfl) (by kernel_rfl) (by kernel_rfl) (fun _ _ _ h => h) (Or.inl ⟨by rfl, ?_⟩) (by assumption) ?_
                                    rotate_left
                                    · (intro w hSw; (try dsimp only at hSw); go_simp; try with_reducible rfl)
                                    try simp only [Act.put, List.setIfInBounds_toArray, List.set_cons_zero, List.set_cons_succ]
                                    refine wpAnyH_take (i := 11) (oi := Oper.mk _ _ _ _ _ _) (v := ?_) rfl (by kernel_rfl) (by kernel_rfl) (by kernel_rfl) (fun _ _ _ h => h) (Or.inl ⟨by rfl, ?_⟩) (by assumption) ?_
                                    rotate_left
                                    · (intro w hSw; (try dsimp only at hSw); go_simp; try with_reducible rfl)
                                    try simp only [Act.put, List.setIfInBounds_toArray, List.set_cons_zero, List.set_cons_succ]
                                    refine wpAnyH_take (i := 12) (oi := Oper.mk _ _ _ _ _ _) (v := ?_) rfl (by kernel_rfl) (by kernel_rfl) (by kernel_rfl) (fun _ _ _ h => h) (Or.inl ⟨by rfl, ?_⟩) (by assumption) ?_
                                    rotate_left
                                    · (intro w hSw; (try dsimp only at hSw); go_simp; try with_reducible rfl)
                                    try simp only [Act.put, List.setIfInBounds_toArray, List.set_cons_zero, List.set_cons_succ]
                                    refine wpAnyH_done (by kernel_rfl) ?_ _
                                    go_wp2_with fail
                                    go_roundw
                                    case rel => exact ⟨i + 1, by omega, by go_num, HR2.out, HBi.out.drew⟩
                                    case measure => simp [intOf]; omega
                                · obtain rfl : j = i := by omega
                                  have HR2 := Lib.hid (HOn.out (fun p q hp hq => HT2.out p q hp hq))
                                  have HBl := Lib.hid (HBk.out.trans (HBi.out.mono HBk.out.size))
                                  go_wp2_with fail
                                  go_roundw
                                  case rel => exact ⟨j + 1, by omega, by go_num, HR2.out, HR.out, HBl.out⟩
                                  case measure => simp [intOf]; omega
                        · obtain rfl : j = v.rows.length := by omega
                          have HR := Lib.hid (show allTo (funAt g x) (k + 1) = true by rw [HAn.out, HO.out, HA.out]; have h := HJ2.out; have h' := HJ1.out; rw [List.take_length] at h h'; rw [h, h']; rfl)
                          have HBd := Lib.hid (HBc5.out.trans (HBj.out.mono HBc5.out.size))
                          go_wp2_with fail
                          go_roundw
                          case rel => exact ⟨k + 1, by omega, by go_num, HR.out, HBd.out⟩
                          case measure => simp [intOf]; omega
              · obtain rfl : m2 = k := by omega
                have HR := Lib.hid (show mb = true by rw [HE.out, HO.out])
                have HBw := Lib.hid (HB3.out.trans (HB.out.mono HB3.out.size))
                go_wp2_with fail
                go_ret
                exact ⟨ret_bool HR.out.symm, HBw.out⟩
      · have HR := Lib.hid (show mb = false by rw [HE.out, decide_eq_false h2]; rfl)
        have h2' : ((m2 : Int) == (n2 : Int)) = false := beq_eq_false_iff_ne.2 (by omega)
        have h2'' : ((m2 : Int) != (n2 : Int)) = true := by rw [bne, h2']; rfl
        go_wp2_with fail
        go_ret
        exact ⟨ret_bool HR.out.symm, HB3.out⟩
    · have HR := Lib.hid (show mb = false by rw [HE.out, decide_eq_false h1]; rfl)
      have h1' : ((m1 : Int) == (n1 : Int)) = false := beq_eq_false_iff_ne.2 (by omega)
      have h1'' : ((m1 : Int) != (n1 : Int)) = true := by rw [bne, h1']; rfl
      go_wp2_with fail
      go_ret
      exact ⟨ret_bool HR.out.symm, HB3.out⟩
end Go.Proofs.YtfcmpfaonpnbaaaGreatDoor.Vl
