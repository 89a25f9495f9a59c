import Derived.Test.YtfcmpfaonpnbaaaGreatDoorMu
/- merged by wip/merge.py from: ValApply ValClone ValWithA -/
/- The program's value: what a function is for some arguments. -/
namespace Go.Proofs.YtfcmpfaonpnbaaaGreatDoor.Vl
open Go.RowKit Go.Proofs.YtfcmpfaonpnbaaaGreatDoor.Dt Go.Proofs.YtfcmpfaonpnbaaaGreatDoor.Sg

theorem apply_bad {g : Sig} {x : Wrld} {f : Int} {l : List Int} (h : askE g x f l ≠ 0) : applyV g x f l = 0 := by unfold applyV; rw [if_neg h]
theorem apply_at {g : Sig} {x : Wrld} {k : Nat} {l : List Int} {v : FunVal} (h : askE g x (k : Int) l = 0) (hv : x.funs[k]? = some v) : applyV g x (k : Int) l = match rowAt v.rows (padA l) with | some r => r.val | none => v.els := by
  unfold applyV
  rw [if_pos h, show ((k : Int)).toNat = k by omega, List.getD_eq_getElem?_getD, hv]; rfl
theorem ask_fun {g : Sig} {x : Wrld} {f : Int} {l : List Int} (h : askE g x f l = 0) : ∃ k v, f = ((k : Nat) : Int) ∧ x.funs[k]? = some v ∧ k < g.funs.length ∧ onceB v.rows = true ∧ v.rows.length ≤ 400 := by
  obtain ⟨hm, h0, hlt, _, _⟩ := ask_zero.1 h
  obtain ⟨_, _, h3, _, h5⟩ := may_parts hm
  have hk : f.toNat < x.funs.length := by omega
  have hv := List.getElem?_eq_getElem hk
  generalize x.funs[f.toNat] = v at hv
  have hgf := List.getElem?_eq_getElem (show f.toNat < g.funs.length by omega)
  have := h5 _ hk
  unfold funAt at this
  rw [hgf, hv] at this
  simp only [funOkW, Bool.and_eq_true, decide_eq_true_eq] at this
  exact ⟨f.toNat, v, by omega, hv, by omega, this.1.1.1, this.1.1.2⟩
theorem look_some {l : List Row} (ho : onceB l = true) {a : Int × Int × Int} {i : Int} (h : idxTo l l.length a = some i) : ∃ (j : Nat) (r : Row), i = (j : Int) ∧ l[j]? = some r ∧ Row.args r = a ∧ rowAt l a = some r ∧ hasA l a = true := by
  have := idx_row ho a
  rw [h] at this
  exact this
theorem look_none {l : List Row} (ho : onceB l = true) {a : Int × Int × Int} (h : idxTo l l.length a = none) : rowAt l a = none ∧ hasA l a = false := by
  have := idx_row ho a
  rw [h] at this
  exact this
set_option maxRecDepth 100000 in
set_option maxHeartbeats 6400000 in
theorem apply_any {w : World} {A1 A2 A3 B1 B2 A : Option Addr} {c1 c2 c3 d1 d2 c : Nat} {g : Sig} {x : Wrld} (hg : SigAt w A1 c1 A2 c2 A3 c3 g) (hx : WrldAt w B1 d1 B2 d2 x) (hl1 : g.sorts.length ≤ 1000000) (hl2 : g.funs.length ≤ 1000000) (hl3 : g.macros.length ≤ 1000000) (hl4 : (x.sizes.length : Int) ≤ 1000000)
    (f : Int) (hf : I64 f) {l : List Int} (hl : Cells w A (l.map (Value.int .i64))) (hli : ∀ y ∈ l, I64 y) (hll : (l.length : Int) ≤ 140737488351232) :
    Calls Tryz.prog 7 #[.agg #[.slice A1 g.sorts.length c1, .slice A2 g.funs.length c2, .slice A3 g.macros.length c3], .agg #[.slice B1 x.sizes.length d1, .slice B2 x.funs.length d2], .int .i64 f, .slice A l.length c] w fun e w' => e = .returned (.tuple #[.int .i64 (applyV g x f l), .int .i64 (askE g x f l)]) ∧ Below w.heap.size w w' := by
  have HB2 := Lib.hid (((Below.refl w.heap.size w).alloc (Nat.le_refl _) (.cells #[.slice A1 g.sorts.length c1, .slice A2 g.funs.length c2, .slice A3 g.macros.length c3] 26)).alloc (by simp) (.cells #[.slice B1 x.sizes.length d1, .slice B2 x.funs.length d2] 30))
  have HG2 := Lib.hid (gw_made w (.slice A1 g.sorts.length c1) (.slice A2 g.funs.length c2) (.slice A3 g.macros.length c3) (.slice B1 x.sizes.length d1) (.slice B2 x.funs.length d2) 26 30)
  have HAs := Lib.hid (fun W (hW : Below w.heap.size w W) h => asked_any (w := W) (c := c) (gp := w.heap.size) (wp := w.heap.size + 1) (hg.on hW) (hx.on hW) hl1 hl2 hl3 hl4 h f hf (hl.on hW) hli hll)
  have HBd := Lib.hid (apply_bad (g := g) (x := x) (f := f) (l := l))
  have HFn := Lib.hid (ask_fun (g := g) (x := x) (f := f) (l := l))
  have HAt := Lib.hid (fun k v h hv => apply_at (g := g) (x := x) (k := k) (l := l) (v := v) h hv)
  have HFv := Lib.hid hx.funs
  have HPr := Lib.hid (show ∀ (a b c d : Int), a = c → b = d → Ending.returned (.tuple #[.int .i64 a, .int .i64 b]) = .returned (.tuple #[.int .i64 c, .int .i64 d]) from fun a b c d h1 h2 => by rw [h1, h2])
  clear hg hx hl hli
  generalize hn1 : g.sorts.length = n1 at *
  generalize hn2 : g.funs.length = n2 at *
  generalize hn3 : g.macros.length = n3 at *
  generalize hm1 : x.sizes.length = m1 at *
  generalize hm2 : x.funs.length = m2 at *
  go_enter Tryz.func7, Tryz.ntmps7
  go_wp2_with fail
  generalize (w.alloc (.cells #[.slice A1 n1 c1, .slice A2 n2 c2, .slice A3 n3 c3] 26)).alloc (.cells #[.slice B1 m1 d1, .slice B2 m2 d2] 30) = w2 at *
  refine (HAs.out w2 HB2.out HG2.out).mono ?_
  rintro e w3 ⟨⟨a, rfl, hai, hae⟩, hb3⟩
  have HB3 := Lib.hid (HB2.out.trans (hb3.mono HB2.out.size))
  have HG3 := Lib.hid (HG2.out.on hb3)
  have HAi := Lib.hid hai
  have HAe := Lib.hid hae
  clear hb3 hai hae HG2 HB2 HAs
  unfold keyA
  generalize hE : askE g x f l = E at *
  by_cases h0 : E = 0
  · obtain ⟨k, v, rfl, hv, hk, ho, h400⟩ := HFn.out h0
    have HV := Lib.hid (HAt.out k v (hE.trans h0) hv)
    obtain ⟨vb, vo, rfl, hvl⟩ := lies_addr HFv.out hv
    have HVc := Lib.hid (fun W hW => funval_cells' (W := W) HFv.out hW hv)
    have HO := Lib.hid ho
    have HPa := Lib.hid (HAe.out h0)
    have HE0 := Lib.hid (hE.trans h0)
    subst h0
    have hkm : k < m2 := by rw [← hm2]; exact (List.getElem?_eq_some_iff.1 hv).1
    have hkm2 : (k : Int) < (m2 : Int) := by omega
    clear hE hv ho HAe HFn HAt
    have HB4 := Lib.hid (HB3.out.alloc HB3.out.size (.cells #[.int .i64 a.1, .int .i64 a.2.1, .int .i64 a.2.2] 58))
    have HG4 := Lib.hid (HG3.out.on ((Below.refl w3.heap.size w3).alloc (Nat.le_refl _) (.cells #[.int .i64 a.1, .int .i64 a.2.1, .int .i64 a.2.2] 58)))
    have HA4 := Lib.hid (show (w3.alloc (.cells #[.int .i64 a.1, .int .i64 a.2.1, .int .i64 a.2.2] 58)).heap[w3.heap.size]? = some (.cells #[.int .i64 a.1, .int .i64 a.2.1, .int .i64 a.2.2] 58 (0, 0)) from Array.getElem?_push_size)
    obtain ⟨hvl2, Ar, cr, e0, e1, hrl, hels, hrb⟩ := HVc.out _ HB4.out
    have HRc := Lib.hid (rows_any hrl (by omega) e0 (Nat.lt_of_lt_of_le hvl2 HB4.out.size))
    have HRl := Lib.hid hrl
    have HE01 := Lib.hid (And.intro e0 e1)
    have q0 := HG4.out.v1
    clear e0 e1 hrl
    go_wp2_with fail
    generalize w3.alloc (.cells #[.int .i64 a.1, .int .i64 a.2.1, .int .i64 a.2.2] 58) = w4 at *
    refine HRc.out.mono ?_
    rintro e w5 ⟨bm, rfl, hm5, hb5, _⟩
    have HB5 := Lib.hid (HB4.out.trans (hb5.mono HB4.out.size))
    have p0 := (HG4.out.on hb5).v1
    have HA5 := Lib.hid ((hb5.block _ (lt_of_block HA4.out)).trans HA4.out)
    obtain ⟨z0, z1, z2, _⟩ := arr3 HA5.out
    have hlk := hm5.look HAi.out
    have hlv : vb < w4.heap.size := Nat.lt_of_lt_of_le hvl2 HB4.out.size
    have r0 := ((bcell hb5).1 vb _ hlv).trans HE01.out.1
    have r1 := ((bcell hb5).1 vb _ hlv).trans HE01.out.2
    have HRl5 := Lib.hid (HRl.out.on RowR.lasts hb5)
    unfold keyA at hlk
    rw [HO.out]
    cases hi : idxTo v.rows v.rows.length a with
    | some i =>
      obtain ⟨j, r, rfl, hj, hra, hrow, _⟩ := look_some HO.out hi
      have HR := Lib.hid (show applyV g x (k : Int) l = r.val by rw [HV.out, ← HPa.out, hrow])
      obtain ⟨rb, ro, rfl, hrbl⟩ := lies_addr HRl5.out hj
      obtain ⟨_, _, _, s3, _, _⟩ := row_cells' HRl5.out (Below.refl _ _) hj
      have hjl : (j : Int) < (v.rows.length : Int) := by have := (List.getElem?_eq_some_iff.1 hj).1; omega
      rw [hi] at hlk
      simp only [Option.getD_some, Option.isSome_some] at hlk
      clear hi hj hra hrow hm5 hb5 q0
      go_wp2_with fail
      go_ret2
      exact ⟨HPr.out _ _ _ _ HR.out.symm HE0.out.symm, HB5.out⟩
    | none =>
      have HR := Lib.hid (show applyV g x (k : Int) l = v.els by rw [HV.out, ← HPa.out, (look_none HO.out hi).1])
      rw [hi] at hlk
      simp only [Option.getD_none, Option.isSome_none] at hlk
      clear hi hm5 hb5 q0
      go_wp2_with fail
      go_ret2
      exact ⟨HPr.out _ _ _ _ HR.out.symm HE0.out.symm, HB5.out⟩
  · have HR := Lib.hid (HBd.out h0)
    have h0' : (E == 0) = false := beq_eq_false_iff_ne.2 h0
    have h0'' : (E != 0) = true := by rw [bne, h0']; rfl
    have HB4 := Lib.hid (HB3.out.alloc HB3.out.size (.cells #[.int .i64 a.1, .int .i64 a.2.1, .int .i64 a.2.2] 58))
    have HEq := Lib.hid hE
    clear hE
    go_wp2_with fail
    go_ret2
    exact ⟨HPr.out _ _ _ _ HR.out.symm HEq.out.symm, HB4.out⟩
end Go.Proofs.YtfcmpfaonpnbaaaGreatDoor.Vl
/- slices.Clone at rows of structs. -/
namespace Go.Proofs.YtfcmpfaonpnbaaaGreatDoor.Vl
open Go.RowKit Go.Proofs.YtfcmpfaonpnbaaaGreatDoor.Dt Go.Proofs.YtfcmpfaonpnbaaaGreatDoor.Sg

def ClonePost {α : Type} (n : Nat) (R : World → List Value → α → Prop) (t : TypeId) (l : List α) (w : World) (e : Ending) (w' : World) : Prop :=
  ∃ A' c', e = .returned (.slice A' l.length c') ∧ Grows n R t w w.heap.size w' (.slice A' l.length c') l ∧ Below w.heap.size w w'
theorem lies_flat {α : Type} {n : Nat} {R : World → List Value → α → Prop} {w : World} {A : Option Addr} {l : List α} (hone : ∀ W vs x, R W vs x → ∀ u ∈ vs, u.oneCell' = true) (h : Lies n R w A l) :
    ∃ vals : List Value, vals.length = l.length * n ∧ Cells w A vals ∧ (∀ u ∈ vals, u.oneCell' = true) ∧ ∀ i x, l[i]? = some x → ∃ vs : List Value, vs.length = n ∧ R w vs x ∧ ∀ j u, vs[j]? = some u → vals[i * n + j]? = some u := by
  rcases h with h | ⟨b, o, rfl, hlt, hr⟩
  · subst h
    exact ⟨[], by simp, .inl rfl, by simp, fun i x hx => by simp at hx⟩
  · have key : ∀ k, k ≤ l.length → ∃ vals : List Value, vals.length = k * n ∧ (∀ u ∈ vals, u.oneCell' = true) ∧ (∀ j u, vals[j]? = some u → w.cell? ⟨b, o + j, none⟩ = some u) ∧ ∀ i x, i < k → l[i]? = some x → ∃ vs : List Value, vs.length = n ∧ R w vs x ∧ ∀ j u, vs[j]? = some u → vals[i * n + j]? = some u := by
      intro k
      induction k with
      | zero => intro _; exact ⟨[], by simp, by simp, fun j u hu => by simp at hu, fun i x hi => by omega⟩
      | succ k ih =>
        intro hk
        obtain ⟨vals, h1, h2, h3, h4⟩ := ih (by omega)
        have hx := List.getElem?_eq_getElem (show k < l.length by omega)
        generalize l[k] = x at hx
        obtain ⟨vs, e1, e2, e3⟩ := hr k x hx
        refine ⟨vals ++ vs, by rw [List.length_append, h1, e1, Nat.succ_mul], fun u hu => ?_, fun j u hu => ?_, fun i y hi hy => ?_⟩
        · rcases List.mem_append.1 hu with hu | hu
          · exact h2 u hu
          · exact hone w vs x e3 u hu
        · by_cases hj : j < vals.length
          · rw [List.getElem?_append_left hj] at hu; exact h3 j u hu
          · rw [List.getElem?_append_right (by omega)] at hu
            have := e2 _ u hu
            rw [h1] at this
            rwa [show o + k * n + (j - k * n) = o + j by omega] at this
        · by_cases he : i < k
          · obtain ⟨us, a1, a2, a3⟩ := h4 i y he hy
            refine ⟨us, a1, a2, fun j u hu => ?_⟩
            have := a3 j u hu
            rw [List.getElem?_append_left (List.getElem?_eq_some_iff.1 this).1]; exact this
          · obtain rfl : i = k := by omega
            rw [hx] at hy
            cases hy
            exact ⟨vs, e1, e3, fun j u hu => by rw [List.getElem?_append_right (by omega), h1, show i * n + j - i * n = j by omega]; exact hu⟩
    obtain ⟨vals, h1, h2, h3, h4⟩ := key l.length (Nat.le_refl _)
    exact ⟨vals, h1, .inr ⟨b, o, rfl, hlt, h3⟩, h2, fun i x hx => h4 i x (List.getElem?_eq_some_iff.1 hx).1 hx⟩
theorem one_row (W : World) (vs : List Value) (x : Row) (h : RowR W vs x) : ∀ u ∈ vs, u.oneCell' = true := by
  obtain ⟨rfl, _⟩ := h
  intro u hu
  simp at hu
  rcases hu with rfl | rfl | rfl | rfl <;> rfl
theorem one_fv (W : World) (vs : List Value) (x : FunVal) (h : FunValR W vs x) : ∀ u ∈ vs, u.oneCell' = true := by
  obtain ⟨A, c, rfl, _⟩ := h
  intro u hu
  simp at hu
  rcases hu with rfl | rfl <;> rfl
/-- a clone's block -/
theorem grows_block {α : Type} {n : Nat} {R : World → List Value → α → Prop} {t : TypeId} {w0 w : World} {base : Nat} {A : Option Addr} {c : Nat} {l : List α} (h : Grows n R t w0 base w (.slice A l.length c) l) (hl : 0 < l.length) :
    ∃ g cur, A = some ⟨g, 0, none⟩ ∧ base ≤ g ∧ w.heap[g]? = some (.cells cur t (0, 0)) ∧ l.length ≤ c ∧ c ≤ maxLen ∧ cur.size = c * n ∧ ∀ i x, l[i]? = some x → ∃ vs : List Value, vs.length = n ∧ R w0 vs x ∧ ∀ j u, vs[j]? = some u → cur[i * n + j]? = some u := by
  obtain ⟨vals, ho, hr⟩ := h.row
  rcases ho.2 with ⟨h1, h2⟩ | ⟨g, cap, cur, h1, hg, hat, h2, h3, h4, h5⟩
  · omega
  · simp only [Value.slice.injEq] at h1
    obtain ⟨h1a, _, h1c⟩ := h1
    subst h1c
    refine ⟨g, cur, h1a, hg, hat, h2, h3, h4, fun i x hx => ?_⟩
    obtain ⟨vs, e1, e2, e3⟩ := hr i x hx
    refine ⟨vs, e1, e2, fun j u hu => ?_⟩
    have := e3 j u hu
    rw [← h5, List.getElem?_take] at this
    split at this
    · simpa using this
    · cases this
theorem info_row : (Tryz.prog.info? 69).map (fun i => (i.zero, i.size, i.bytes)) = some (some (.agg #[.int .i64 0, .int .i64 0, .int .i64 0, .int .i64 0]), 4, 32) := by kernel_rfl
theorem info_fv : (Tryz.prog.info? 56).map (fun i => (i.zero, i.size, i.bytes)) = some (some (.agg #[.slice none 0 0, .int .i64 0]), 2, 32) := by kernel_rfl
set_option maxRecDepth 100000 in
set_option maxHeartbeats 1600000 in
theorem clone_rows {R : World → List Value → Row → Prop} (hone : ∀ W vs x, R W vs x → ∀ u ∈ vs, u.oneCell' = true) {w : World} {A : Option Addr} {c : Nat} {l : List Row} (h : Lies 4 R w A l) (hl : l.length * 32 ≤ 140737488351232) :
    Calls Tryz.prog 27 #[.slice A l.length c] w (ClonePost 4 R 69 l w) := by
  have hll : (l.length : Int) ≤ 140737488351232 := by omega
  cases A with
  | none =>
    have h0 : l = [] := by
      rcases h with h | ⟨b, o, h, _⟩
      · exact h
      · cases h
    subst h0
    have HP := Lib.hid (show ClonePost 4 R 69 ([] : List Row) w (.returned (.slice none 0 0)) w from ⟨none, 0, rfl, Grows.nil w, Below.refl _ _⟩)
    have hnil := fun W => Lib.run_eql_slice_nil (P := Tryz.prog) W 54 69 none 0 c 0 0 Tryz.underlying54
    go_enter Tryz.func27, Tryz.ntmps27
    go_wp2_with fail
    go_ret
    exact HP.out
  | some a =>
    obtain ⟨vals, hv1, hv2, hv3, hv4⟩ := lies_flat hone h
    have HC := Lib.hid (hv2.on ((Below.refl w.heap.size w).alloc (Nat.le_refl _) (.cells #[] 69)))
    have H1 := Lib.hid hv1
    have H3 := Lib.hid hv3
    have H4 := Lib.hid hv4
    have HB := Lib.hid ((Below.refl w.heap.size w).alloc (Nat.le_refl _) (.cells #[] 69))
    have HO := Lib.hid (owns_empty w 69 4)
    have HLl := Lib.hid hl
    obtain ⟨i0, hi0, z0, z1, z2⟩ := info_parts info_row
    have I0 := Lib.hid hi0
    have I1 := Lib.hid z0
    have I2 := Lib.hid z1
    have I3' := Lib.hid z2
    have HP := Lib.hid (fun e w' A' c' (e0 : e = Ending.returned (.slice A' l.length c')) h1 h2 => (show ClonePost 4 R 69 l w e w' from ⟨A', c', e0, h1, h2⟩))
    clear h hv1 hv2 hv3 hv4 hi0 z0 z1 z2 hl
    have hnil := fun W => Lib.run_eql_slice_nil (P := Tryz.prog) W 54 69 (some a) l.length c 0 0 Tryz.underlying54
    go_enter Tryz.func27, Tryz.ntmps27
    go_wp2_with (at_builtin; refine wpList_append_at rfl (.tmp 5) (.tmp 6) _ rfl w.heap.size 69 i0 (.agg #[.int .i64 0, .int .i64 0, .int .i64 0, .int .i64 0]) 4 32 Tryz.underlying54 I0.out I1.out I2.out I3'.out rfl (by decide) (.slice (some ⟨w.heap.size, 0, none⟩) 0 0) 0 [] rfl HO.out (some a) l.length c vals rfl H1.out HC.out H3.out ?p1 ?p2 ?p3 ?_)
    case p1 => unfold maxLen; omega
    case p2 => have := HLl.out; omega
    case p3 => simp
    intro v' w2 hown hgr hat
    obtain ⟨A', c', rfl⟩ := shape_of_owns hown
    have HQ := Lib.hid (HP.out _ w2 A' c' rfl ⟨vals, hown, H4.out⟩ (HB.out.grown hgr HB.out.size (fun k hk => by simp [Value.ownBlock] at hk; omega)))
    clear hown hgr hat
    go_wp2_with fail
    go_ret
    exact HQ.out
set_option maxRecDepth 100000 in
set_option maxHeartbeats 1600000 in
theorem clone_fvs {R : World → List Value → FunVal → Prop} (hone : ∀ W vs x, R W vs x → ∀ u ∈ vs, u.oneCell' = true) {w : World} {A : Option Addr} {c : Nat} {l : List FunVal} (h : Lies 2 R w A l) (hl : l.length * 32 ≤ 140737488351232) :
    Calls Tryz.prog 26 #[.slice A l.length c] w (ClonePost 2 R 56 l w) := by
  have hll : (l.length : Int) ≤ 140737488351232 := by omega
  cases A with
  | none =>
    have h0 : l = [] := by
      rcases h with h | ⟨b, o, h, _⟩
      · exact h
      · cases h
    subst h0
    have HP := Lib.hid (show ClonePost 2 R 56 ([] : List FunVal) w (.returned (.slice none 0 0)) w from ⟨none, 0, rfl, Grows.nil w, Below.refl _ _⟩)
    have hnil := fun W => Lib.run_eql_slice_nil (P := Tryz.prog) W 28 56 none 0 c 0 0 Tryz.underlying28
    go_enter Tryz.func26, Tryz.ntmps26
    go_wp2_with fail
    go_ret
    exact HP.out
  | some a =>
    obtain ⟨vals, hv1, hv2, hv3, hv4⟩ := lies_flat hone h
    have HC := Lib.hid (hv2.on ((Below.refl w.heap.size w).alloc (Nat.le_refl _) (.cells #[] 56)))
    have H1 := Lib.hid hv1
    have H3 := Lib.hid hv3
    have H4 := Lib.hid hv4
    have HB := Lib.hid ((Below.refl w.heap.size w).alloc (Nat.le_refl _) (.cells #[] 56))
    have HO := Lib.hid (owns_empty w 56 2)
    have HLl := Lib.hid hl
    obtain ⟨i0, hi0, z0, z1, z2⟩ := info_parts info_fv
    have I0 := Lib.hid hi0
    have I1 := Lib.hid z0
    have I2 := Lib.hid z1
    have I3' := Lib.hid z2
    have HP := Lib.hid (fun e w' A' c' (e0 : e = Ending.returned (.slice A' l.length c')) h1 h2 => (show ClonePost 2 R 56 l w e w' from ⟨A', c', e0, h1, h2⟩))
    clear h hv1 hv2 hv3 hv4 hi0 z0 z1 z2 hl
    have hnil := fun W => Lib.run_eql_slice_nil (P := Tryz.prog) W 28 56 (some a) l.length c 0 0 Tryz.underlying28
    go_enter Tryz.func26, Tryz.ntmps26
    go_wp2_with (at_builtin; refine wpList_append_at rfl (.tmp 5) (.tmp 6) _ rfl w.heap.size 56 i0 (.agg #[.slice none 0 0, .int .i64 0]) 2 32 Tryz.underlying28 I0.out I1.out I2.out I3'.out rfl (by decide) (.slice (some ⟨w.heap.size, 0, none⟩) 0 0) 0 [] rfl HO.out (some a) l.length c vals rfl H1.out HC.out H3.out ?p1 ?p2 ?p3 ?_)
    case p1 => unfold maxLen; omega
    case p2 => have := HLl.out; omega
    case p3 => simp
    intro v' w2 hown hgr hat
    obtain ⟨A', c', rfl⟩ := shape_of_owns hown
    have HQ := Lib.hid (HP.out _ w2 A' c' rfl ⟨vals, hown, H4.out⟩ (HB.out.grown hgr HB.out.size (fun k hk => by simp [Value.ownBlock] at hk; omega)))
    clear hown hgr hat
    go_wp2_with fail
    go_ret
    exact HQ.out
end Go.Proofs.YtfcmpfaonpnbaaaGreatDoor.Vl
/- What stands in memory behind a change. No condition. -/
namespace Go.Proofs.YtfcmpfaonpnbaaaGreatDoor.Vl
open Go.RowKit Go.Proofs.YtfcmpfaonpnbaaaGreatDoor.Dt Go.Proofs.YtfcmpfaonpnbaaaGreatDoor.Sg

def WithPost (g : Sig) (x : Wrld) (f : Int) (l : List Int) (v : Int) (w : World) (e : Ending) (w' : World) : Prop :=
  ∃ B1 d1 B2 d2, e = .returned (.tuple #[.agg #[.slice B1 (withW g x f l v).sizes.length d1, .slice B2 (withW g x f l v).funs.length d2], .int .i64 (withE g x f l v)]) ∧ WrldAt w' B1 d1 B2 d2 (withW g x f l v) ∧ Below w.heap.size w w'
theorem set_keep {w : World} {b c o : Nat} {u : Value} {ob : Obj} (h : w.heap[b]? = some ob) (hne : b ≠ c) : (w.setCell ⟨c, o, none⟩ u).heap[b]? = some ob := (Below.heap_setCell w ⟨c, o, none⟩ u b hne).trans h
theorem set_at {w : World} {b o : Nat} {u : Value} {cs : Array Value} {t : TypeId} (h : w.heap[b]? = some (.cells cs t (0, 0))) : (w.setCell ⟨b, o, none⟩ u).heap[b]? = some (.cells (cs.setIfInBounds o u) t (0, 0)) := by
  simp [World.setCell, Array.getElem?_modify, h]
theorem lies_of_block {α : Type} {n : Nat} {R : World → List Value → α → Prop} {w : World} {g : Nat} {t : TypeId} {cur : Array Value} {l : List α} (h : w.heap[g]? = some (.cells cur t (0, 0)))
    (hr : ∀ i x, l[i]? = some x → ∃ vs : List Value, vs.length = n ∧ R w vs x ∧ ∀ j u, vs[j]? = some u → cur[i * n + j]? = some u) : Lies n R w (some ⟨g, 0, none⟩) l :=
  .inr ⟨g, 0, rfl, lt_of_block h, fun i x hx => by
    obtain ⟨vs, h1, h2, h3⟩ := hr i x hx
    exact ⟨vs, h1, fun j u hu => by rw [Nat.zero_add, cell_of_cells h]; exact h3 j u hu, h2⟩⟩
theorem set_get_other {cs : Array Value} {o i : Nat} {u : Value} (h : i ≠ o) : (cs.setIfInBounds o u)[i]? = cs[i]? := by
  rw [Array.getElem?_setIfInBounds, if_neg (fun e => h e.symm)]
theorem set_get_self {cs : Array Value} {o : Nat} {u : Value} (h : o < cs.size) : (cs.setIfInBounds o u)[o]? = some u := by
  rw [Array.getElem?_setIfInBounds, if_pos rfl, if_pos h]
/-- one row's value is changed -/
theorem rows_set {w : World} {l : List Row} {cur : Array Value} {j : Nat} {r : Row} {a : Int × Int × Int} {v : Int} (ho : onceB l = true) (hr : ∀ i x, l[i]? = some x → ∃ vs : List Value, vs.length = 4 ∧ RowR w vs x ∧ ∀ j u, vs[j]? = some u → cur[i * 4 + j]? = some u)
    (hj : l[j]? = some r) (ha : Row.args r = a) (hv : I64 v) :
    ∀ i x, (l.map (setV a v))[i]? = some x → ∃ vs : List Value, vs.length = 4 ∧ RowR w vs x ∧ ∀ (q : Nat) (u : Value), vs[q]? = some u → (cur.setIfInBounds (j * 4 + 3) (.int .i64 v))[i * 4 + q]? = some u := by
  intro i x hx
  rw [List.getElem?_map] at hx
  cases hi : l[i]? with
  | none => rw [hi] at hx; cases hx
  | some y =>
    rw [hi] at hx
    cases hx
    obtain ⟨vs, e1, e2, e3⟩ := hr i y hi
    obtain ⟨rfl, b1, b2, b3, b4⟩ := e2
    by_cases he : i = j
    · subst he
      rw [hj] at hi
      cases hi
      refine ⟨[.int .i64 r.a0, .int .i64 r.a1, .int .i64 r.a2, .int .i64 v], rfl, ?_, fun q u hu => ?_⟩
      · unfold setV
        rw [if_pos ha]
        exact ⟨rfl, b1, b2, b3, hv⟩
      · have hq : q < 4 := (List.getElem?_eq_some_iff.1 hu).1
        by_cases h3 : q = 3
        · subst h3
          have hsz := (Array.getElem?_eq_some_iff.1 (e3 3 _ rfl)).1
          rw [set_get_self hsz]
          exact hu
        · rw [set_get_other (by omega)]
          refine e3 q u ?_
          have : q = 0 ∨ q = 1 ∨ q = 2 := by omega
          rcases this with rfl | rfl | rfl <;> exact hu
    · have hne : Row.args y ≠ a := fun e => by
        unfold onceB at ho
        rw [decide_eq_true_iff] at ho
        have m1 : (l.map Row.args)[i]? = some a := by rw [List.getElem?_map, hi, ← e]; rfl
        have m2 : (l.map Row.args)[j]? = some a := by rw [List.getElem?_map, hj, ← ha]; rfl
        exact he ((List.getElem?_inj (List.getElem?_eq_some_iff.1 m1).1 ho).1 (m1.trans m2.symm))
      have hs : setV a v y = y := by unfold setV; rw [if_neg hne]
      rw [hs]
      refine ⟨_, rfl, ⟨rfl, b1, b2, b3, b4⟩, fun q u hu => ?_⟩
      have hq : q < 4 := (List.getElem?_eq_some_iff.1 hu).1
      rw [set_get_other (by omega)]
      exact e3 q u hu
/-- a row is put behind, and gets its value -/
theorem rows_push {w : World} {l : List Row} {cur : Array Value} {vals : List Value} {a : Int × Int × Int} {v : Int} (hr : ∀ i x, l[i]? = some x → ∃ vs : List Value, vs.length = 4 ∧ RowR w vs x ∧ ∀ j u, vs[j]? = some u → vals[i * 4 + j]? = some u)
    (hl : vals.length = l.length * 4) (hc : ∀ (q : Nat) (u : Value), (vals ++ [Value.int .i64 a.1, .int .i64 a.2.1, .int .i64 a.2.2, .int .i64 0])[q]? = some u → cur[q]? = some u) (ha : I3 a) (hv : I64 v) :
    ∀ i x, (l ++ [⟨a.1, a.2.1, a.2.2, v⟩])[i]? = some x → ∃ vs : List Value, vs.length = 4 ∧ RowR w vs x ∧ ∀ (q : Nat) (u : Value), vs[q]? = some u → (cur.setIfInBounds (l.length * 4 + 3) (.int .i64 v))[i * 4 + q]? = some u := by
  intro i x hx
  by_cases he : i < l.length
  · rw [List.getElem?_append_left he] at hx
    obtain ⟨vs, e1, e2, e3⟩ := hr i x hx
    refine ⟨vs, e1, e2, fun q u hu => ?_⟩
    have hq : q < 4 := by have := (List.getElem?_eq_some_iff.1 hu).1; omega
    rw [set_get_other (by omega)]
    refine hc _ _ ?_
    have := e3 q u hu
    rw [List.getElem?_append_left (List.getElem?_eq_some_iff.1 this).1]; exact this
  · have hi : i = l.length := by
      have := (List.getElem?_eq_some_iff.1 hx).1
      simp at this; omega
    subst hi
    simp at hx
    subst hx
    have hn : ∀ (q : Nat) (u : Value), [Value.int .i64 a.1, .int .i64 a.2.1, .int .i64 a.2.2, .int .i64 0][q]? = some u → cur[l.length * 4 + q]? = some u := fun q u hu => by
      refine hc _ _ ?_
      rw [List.getElem?_append_right (by omega), hl, show l.length * 4 + q - l.length * 4 = q by omega]; exact hu
    refine ⟨[.int .i64 a.1, .int .i64 a.2.1, .int .i64 a.2.2, .int .i64 v], rfl, ⟨rfl, ha.1, ha.2.1, ha.2.2, hv⟩, fun q u hu => ?_⟩
    have hq : q < 4 := (List.getElem?_eq_some_iff.1 hu).1
    by_cases h3 : q = 3
    · subst h3
      rw [set_get_self (Array.getElem?_eq_some_iff.1 (hn 3 _ rfl)).1]
      exact hu
    · rw [set_get_other (by omega)]
      refine hn q u ?_
      have : q = 0 ∨ q = 1 ∨ q = 2 := by omega
      rcases this with rfl | rfl | rfl <;> exact hu
/-- the change is made -/
theorem with_ok {g : Sig} {x : Wrld} {k : Nat} {l : List Int} {v : Int} {w w' : World} {B1 B2 Ar : Option Addr} {d1 d2 c' gb cr m1 m2 : Nat} {t : TypeId} {cur : Array Value} {V : FunVal} {rows : List Row} (hE : withE g x (k : Int) l v = 0) (hx : WrldAt w B1 d1 B2 d2 x) (hm1 : x.sizes.length = m1) (hm2 : x.funs.length = m2) (hV : x.funs[k]? = some V)
    (hb : Below w.heap.size w w') (hg : w'.heap[gb]? = some (.cells cur t (0, 0))) (hc1 : m2 ≤ c') (hc2 : c' ≤ maxLen) (hrow : ∀ i y, i ≠ k → x.funs[i]? = some y → ∃ vs : List Value, vs.length = 2 ∧ FunValR w vs y ∧ ∀ j u, vs[j]? = some u → cur[i * 2 + j]? = some u)
    (hk0 : cur[k * 2]? = some (.slice Ar rows.length cr)) (hk1 : cur[k * 2 + 1]? = some (.int .i64 V.els)) (hL : Lies 4 RowR w' Ar rows) (hr1 : rows.length ≤ cr) (hr2 : cr ≤ maxLen) (hr3 : rows.length * 32 ≤ 140737488351232) (he : I64 V.els) (hrw : rows = putRow V.rows (padA l) v) :
    WithPost g x (k : Int) l v w (.returned (.tuple #[.agg #[.slice B1 m1 d1, .slice (some ⟨gb, 0, none⟩) m2 c'], .int .i64 0])) w' := by
  have hW : withW g x (k : Int) l v = ⟨x.sizes, x.funs.set k ⟨rows, V.els⟩⟩ := by
    unfold withW
    rw [if_pos hE]
    unfold withX
    rw [show ((k : Int)).toNat = k by omega, List.getD_eq_getElem?_getD, hV, hrw]
    rfl
  refine ⟨B1, d1, some ⟨gb, 0, none⟩, c', ?_, ?_, hb⟩
  · rw [hW, hE]
    simp only [List.length_set, hm1, hm2]
  · rw [hW]
    refine ⟨hx.sizes.on (IntR.lasts _) hb, lies_of_block hg (fun i y hy => ?_), hx.l1, by simp only [List.length_set]; omega, hx.m1, hc2, hx.b1, by simp only [List.length_set]; exact hx.b2⟩
    by_cases hi : i = k
    · subst hi
      have hlt := (List.getElem?_eq_some_iff.1 hV).1
      rw [List.getElem?_set_self hlt] at hy
      cases hy
      refine ⟨[.slice Ar rows.length cr, .int .i64 V.els], rfl, ⟨Ar, cr, rfl, hL, hr1, hr2, he, hr3⟩, fun j u hu => ?_⟩
      have hj : j < 2 := (List.getElem?_eq_some_iff.1 hu).1
      have : j = 0 ∨ j = 1 := by omega
      rcases this with rfl | rfl
      · simp at hu; subst hu; exact hk0
      · simp at hu; subst hu; exact hk1
    · rw [List.getElem?_set_ne (fun e => hi e.symm)] at hy
      obtain ⟨vs, e1, e2, e3⟩ := hrow i y hi hy
      exact ⟨vs, e1, FunValR.lasts _ _ _ _ hb e2, e3⟩
end Go.Proofs.YtfcmpfaonpnbaaaGreatDoor.Vl
