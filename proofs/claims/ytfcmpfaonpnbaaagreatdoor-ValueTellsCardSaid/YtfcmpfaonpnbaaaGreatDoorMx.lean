import Derived.Test.YtfcmpfaonpnbaaaGreatDoorMv
/- merged by wip/merge.py from: ValWith -/
/- The program's value: a function changed somewhere. -/
namespace Go.Proofs.YtfcmpfaonpnbaaaGreatDoor.Vl
open Go.RowKit Go.Proofs.YtfcmpfaonpnbaaaGreatDoor.Dt Go.Proofs.YtfcmpfaonpnbaaaGreatDoor.Sg

theorem wrld_nil (w : World) : WrldAt w none 0 none 0 ⟨[], []⟩ := ⟨.inl rfl, .inl rfl, Nat.le_refl _, Nat.le_refl _, by simp [maxLen], by simp [maxLen], by simp, by simp⟩
theorem with_bad {g : Sig} {x : Wrld} {f : Int} {l : List Int} {v : Int} {w w' : World} {E : Int} (h : withE g x f l v = E) (h0 : E ≠ 0) (hb : Below w.heap.size w w') : WithPost g x f l v w (.returned (.tuple #[.agg #[.slice none 0 0, .slice none 0 0], .int .i64 E])) w' := by
  have hW : withW g x f l v = ⟨[], []⟩ := by unfold withW; rw [if_neg (by rw [h]; exact h0)]
  refine ⟨none, 0, none, 0, ?_, ?_, hb⟩
  · rw [hW, h]; rfl
  · rw [hW]; exact wrld_nil w'
/-- two cells stored -/
def set2 (w : World) (b : Nat) (v0 v1 : Value) : World := (w.setCell ⟨b, 0, none⟩ v0).setCell ⟨b, 1, none⟩ v1
theorem two_set {w : World} {b : Nat} {a0 a1 : Value} {t : TypeId} (h : w.heap[b]? = some (.cells #[a0, a1] t (0, 0))) (v0 v1 : Value) : (set2 w b v0 v1).heap[b]? = some (.cells #[v0, v1] t (0, 0)) := by
  simp [set2, World.setCell, Array.getElem?_modify, h]
theorem set2_below {w0 w : World} {B b : Nat} (h : Below B w0 w) (hb : B ≤ b) (v0 v1 : Value) : Below B w0 (set2 w b v0 v1) := (h.setCell (p := ⟨b, 0, none⟩) hb v0).setCell (p := ⟨b, 1, none⟩) hb v1
theorem two_cells {w : World} {b : Nat} {a0 a1 : Value} {t : TypeId} (h : w.heap[b]? = some (.cells #[a0, a1] t (0, 0))) :
    w.cell? ⟨b, 0, none⟩ = some a0 ∧ w.cell? ⟨b, 1, none⟩ = some a1 ∧ w.frozen? ⟨b, 0, none⟩ = false ∧ w.frozen? ⟨b, 1, none⟩ = false :=
  ⟨by rw [cell_of_cells h]; rfl, by rw [cell_of_cells h]; rfl, frozen_of_cells h 0, frozen_of_cells h 1⟩
theorem one_set1 {w : World} {b : Nat} {a0 a1 : Value} {t : TypeId} (h : w.heap[b]? = some (.cells #[a0, a1] t (0, 0))) (u : Value) : (w.setCell ⟨b, 1, none⟩ u).heap[b]? = some (.cells #[a0, u] t (0, 0)) := set_at h
theorem two_keep {w : World} {b c : Nat} {v0 v1 : Value} {ob : Obj} (h : w.heap[b]? = some ob) (hne : b ≠ c) : (set2 w c v0 v1).heap[b]? = some ob := set_keep (set_keep h hne) hne
theorem owns_at {w : World} {base s n cap : Nat} {t : TypeId} {A : Option Addr} {xs : List Value} (h : w.ownsRow base t s (.slice A n cap) n xs) (hn : 0 < n) :
    ∃ g cur, A = some ⟨g, 0, none⟩ ∧ base ≤ g ∧ w.heap[g]? = some (.cells cur t (0, 0)) ∧ n ≤ cap ∧ cap ≤ maxLen ∧ cur.size = cap * s ∧ ∀ (q : Nat) (u : Value), xs[q]? = some u → cur[q]? = some u := by
  rcases h.2 with ⟨h1, h2⟩ | ⟨g, cap', cur, h1, hg, hat, h2, h3, h4, h5⟩
  · omega
  · simp only [Value.slice.injEq] at h1
    obtain ⟨h1a, _, h1c⟩ := h1
    subst h1c
    refine ⟨g, cur, h1a, hg, hat, h2, h3, h4, fun q u hu => ?_⟩
    rw [← h5, List.getElem?_take] at hu
    split at hu
    · simpa using hu
    · cases hu
theorem with_ret {w : World} {b : Nat} {r0 r1 : Value} {E : Int} {act : Act} {t : TypeId} {R : Ending → World → Prop} (hb : w.heap[b]? = some (.cells #[r0, r1] t (0, 0))) (h8 : act.tmps[10]? = some (.pointer (some ⟨b, 0, none⟩))) (h9 : act.tmps[11]? = some (.int .i64 E)) (hd : act.defers = []) (hR : R (.returned (.tuple #[.agg #[r0, r1], .int .i64 E])) w) :
    bodyPost Tryz.prog Tryz.f9 R .ret act w := by
  obtain ⟨y0, y1, _⟩ := two_cells hb
  refine bodyPost_ret (v := .tuple #[.agg #[r0, r1], .int .i64 E]) ?_ hd hR
  simp [results, Tryz.results9, go_sem, y0, y1, h8, h9]
theorem blk_mid (w : World) (o1 o2 o3 : Obj) : (((w.alloc o1).alloc o2).alloc o3).heap[w.heap.size + 1]? = some o2 ∧ (((w.alloc o1).alloc o2).alloc o3).heap[w.heap.size + 1 + 1]? = some o3 := by
  constructor
  · rw [Below.heap_alloc _ _ _ (by simp), show w.heap.size + 1 = (w.alloc o1).heap.size by simp]
    exact Array.getElem?_push_size
  · rw [show w.heap.size + 1 + 1 = ((w.alloc o1).alloc o2).heap.size by simp]
    exact Array.getElem?_push_size
theorem lies_const {α : Type} {n : Nat} {R : World → List Value → α → Prop} {w W : World} {A : Option Addr} {l : List α} (h : Lies n R w A l) (hb : Below w.heap.size w W) : Lies n (fun _ vs y => R w vs y) W A l := by
  rcases h with h | ⟨b, o, hA, hlt, hr⟩
  · exact .inl h
  · refine .inr ⟨b, o, hA, Nat.lt_of_lt_of_le hlt hb.size, fun i y hy => ?_⟩
    obtain ⟨vs, h1, h2, h3⟩ := hr i y hy
    exact ⟨vs, h1, fun j u hu => ((bcell hb).1 b _ hlt).trans (h2 j u hu), h3⟩
theorem withE_bad {g : Sig} {x : Wrld} {f : Int} {l : List Int} {v : Int} (h : askE g x f l ≠ 0) : withE g x f l v = askE g x f l := by unfold withE; rw [if_pos h]
theorem withE_at {g : Sig} {x : Wrld} {k : Nat} {l : List Int} {v : Int} {F : Fun4} {V : FunVal} (h : askE g x (k : Int) l = 0) (hF : g.funs[k]? = some F) (hV : x.funs[k]? = some V) :
    withE g x (k : Int) l v = if isB g.sorts.length x.sizes F.res v then (if 400 < (putRow V.rows (padA l) v).length then 2 else 0) else 33 := by
  unfold withE
  rw [if_neg (by rw [h]; simp), show ((k : Int)).toNat = k by omega, List.getD_eq_getElem?_getD, List.getD_eq_getElem?_getD, hF, hV]
  simp only [Option.getD_some]
  cases isB g.sorts.length x.sizes F.res v <;> rfl
set_option maxRecDepth 100000 in
set_option maxHeartbeats 6400000 in
theorem with_any {w : World} {A1 A2 A3 B1 B2 A : Option Addr} {c1 c2 c3 d1 d2 c : Nat} {g : Sig} {x : Wrld} (hg : SigAt w A1 c1 A2 c2 A3 c3 g) (hx : WrldAt w B1 d1 B2 d2 x) (hl1 : g.sorts.length ≤ 1000000) (hl2 : g.funs.length ≤ 1000000) (hl3 : g.macros.length ≤ 1000000) (hl4 : (x.sizes.length : Int) ≤ 1000000)
    (f : Int) (hf : I64 f) {l : List Int} (hl : Cells w A (l.map (Value.int .i64))) (hli : ∀ y ∈ l, I64 y) (hll : (l.length : Int) ≤ 140737488351232) (v : Int) (hv : I64 v) :
    Calls Tryz.prog 9 #[.agg #[.slice A1 g.sorts.length c1, .slice A2 g.funs.length c2, .slice A3 g.macros.length c3], .agg #[.slice B1 x.sizes.length d1, .slice B2 x.funs.length d2], .int .i64 f, .slice A l.length c, .int .i64 v] w (WithPost g x f l v w) := by
  have HB2 := Lib.hid ((((Below.refl w.heap.size w).alloc (Nat.le_refl _) (.cells #[.slice A1 g.sorts.length c1, .slice A2 g.funs.length c2, .slice A3 g.macros.length c3] 26)).alloc (by simp) (.cells #[.slice B1 x.sizes.length d1, .slice B2 x.funs.length d2] 30)).alloc (by simp; omega) (.cells #[.slice none 0 0, .slice none 0 0] 30))
  have HG2 := Lib.hid ((gw_made w (.slice A1 g.sorts.length c1) (.slice A2 g.funs.length c2) (.slice A3 g.macros.length c3) (.slice B1 x.sizes.length d1) (.slice B2 x.funs.length d2) 26 30).on ((Below.refl _ _).alloc (Nat.le_refl _) (.cells #[.slice none 0 0, .slice none 0 0] 30)))
  have HW2 := Lib.hid (blk_mid w (.cells #[.slice A1 g.sorts.length c1, .slice A2 g.funs.length c2, .slice A3 g.macros.length c3] 26) (.cells #[.slice B1 x.sizes.length d1, .slice B2 x.funs.length d2] 30) (.cells #[.slice none 0 0, .slice none 0 0] 30))
  have HAs := Lib.hid (fun W (hW : Below w.heap.size w W) h => asked_any (w := W) (c := c) (gp := w.heap.size) (wp := w.heap.size + 1) (hg.on hW) (hx.on hW) hl1 hl2 hl3 hl4 h f hf (hl.on hW) hli hll)
  have HIs := Lib.hid (fun W (hW : Below w.heap.size w W) s => is_any (A1 := A1) (A2 := A2) (A3 := A3) (B2 := B2) (n1 := g.sorts.length) (c1 := c1) (n2 := g.funs.length) (c2 := c2) (n3 := g.macros.length) (c3 := c3) (d1 := d1) (m := x.funs.length) (d2 := d2) (hx.sizes.on (IntR.lasts _) hW) hl4 (by omega) s v hv)
  have HBad := Lib.hid (fun w' E h h0 hb => with_bad (g := g) (x := x) (f := f) (l := l) (v := v) (w := w) (w' := w') (E := E) h h0 hb)
  have HFn := Lib.hid (ask_fun (g := g) (x := x) (f := f) (l := l))
  have HEb := Lib.hid (withE_bad (g := g) (x := x) (f := f) (l := l) (v := v))
  have HEa := Lib.hid (fun k F V h hF hV => withE_at (g := g) (x := x) (k := k) (l := l) (v := v) (F := F) (V := V) h hF hV)
  have HFv := Lib.hid hx.funs
  have HFf := Lib.hid hg.funs
  have HX := Lib.hid hx
  have HVI := Lib.hid hv
  clear hg hx hl hli hv
  generalize hn1 : g.sorts.length = n1 at *
  generalize hn2 : g.funs.length = n2 at *
  generalize hn3 : g.macros.length = n3 at *
  generalize hm1 : x.sizes.length = m1 at *
  generalize hm2 : x.funs.length = m2 at *
  go_enter Tryz.func9, Tryz.ntmps9
  go_wp2_with fail
  generalize ((w.alloc (.cells #[.slice A1 n1 c1, .slice A2 n2 c2, .slice A3 n3 c3] 26)).alloc (.cells #[.slice B1 m1 d1, .slice B2 m2 d2] 30)).alloc (.cells #[.slice none 0 0, .slice none 0 0] 30) = w2 at *
  refine (HAs.out w2 HB2.out HG2.out).mono ?_
  rintro e w3 ⟨⟨a, rfl, hai, hae⟩, hb3⟩
  have HB3 := Lib.hid (HB2.out.trans (hb3.mono HB2.out.size))
  have HG3 := Lib.hid (HG2.out.on hb3)
  have HW3 := Lib.hid (And.intro ((hb3.block _ (lt_of_block HW2.out.1)).trans HW2.out.1) ((hb3.block _ (lt_of_block HW2.out.2)).trans HW2.out.2))
  have HAi := Lib.hid hai
  have HAe := Lib.hid hae
  clear hb3 hai hae HG2 HB2 HAs HW2
  unfold keyA
  have BA := Lib.hid ((Below.refl w3.heap.size w3).alloc (Nat.le_refl _) (.cells #[.int .i64 a.1, .int .i64 a.2.1, .int .i64 a.2.2] 58))
  have HB4 := Lib.hid (HB3.out.trans (BA.out.mono HB3.out.size))
  have HG4 := Lib.hid (HG3.out.on BA.out)
  have HW4 := Lib.hid (And.intro ((BA.out.block _ (lt_of_block HW3.out.1)).trans HW3.out.1) ((BA.out.block _ (lt_of_block HW3.out.2)).trans HW3.out.2))
  have HA4 := Lib.hid (show (w3.alloc (.cells #[.int .i64 a.1, .int .i64 a.2.1, .int .i64 a.2.2] 58)).heap[w3.heap.size]? = some (.cells #[.int .i64 a.1, .int .i64 a.2.1, .int .i64 a.2.2] 58 (0, 0)) from Array.getElem?_push_size)
  have HZ := Lib.hid (show w.heap.size + 1 + 1 < w3.heap.size from lt_of_block HW3.out.2)
  generalize hE : askE g x f l = E at *
  have HEq := Lib.hid hE
  clear hE BA HG3 HW3
  by_cases h0 : E = 0
  · subst h0
    obtain ⟨k, V, rfl, hV, hkg, ho, h400⟩ := HFn.out rfl
    obtain ⟨F, hF⟩ : ∃ F, g.funs[k]? = some F := ⟨_, List.getElem?_eq_getElem (by omega)⟩
    have HE := Lib.hid (HEa.out k F V HEq.out hF hV)
    obtain ⟨fb, fo, rfl, hfl⟩ := lies_addr HFf.out hF
    obtain ⟨vb, vo, rfl, hvl⟩ := lies_addr HFv.out hV
    have HFit := Lib.hid (fun W hW h => fun_fit' (W := W) (gp := w.heap.size) (wp := w.heap.size + 1) (u0 := .slice A1 n1 c1) (u1 := .slice (some ⟨fb, fo, none⟩) n2 c2) (u2 := .slice A3 n3 c3) (v0 := .slice B1 m1 d1) (v1 := .slice (some ⟨vb, vo, none⟩) m2 d2) HFf.out hW hF h)
    have HVc := Lib.hid (fun W hW => funval_cells' (W := W) HFv.out hW hV)
    have HO := Lib.hid ho
    have HPa := Lib.hid (HAe.out rfl)
    have HV := Lib.hid hV
    have hkm : (k : Int) < (m2 : Int) := by rw [← hm2]; have := (List.getElem?_eq_some_iff.1 hV).1; omega
    have hkn : (k : Int) < (n2 : Int) := by rw [← hn2]; omega
    clear hF hV ho HAe HFn HEa HEb
    go_upto_region 2 with fail
    generalize w3.alloc (.cells #[.int .i64 a.1, .int .i64 a.2.1, .int .i64 a.2.2] 58) = w4 at *
    have HF4 := Lib.hid (HFit.out w4 HB4.out HG4.out)
    have HIr := Lib.hid (fun W hW => HIs.out W hW F.res)
    generalize hq : isB n1 x.sizes F.res v = q at *
    clear hq
    go_wp2_with fail
    refine wp_region_held_drew (S := fun W => W.cell? ⟨w.heap.size, 0, none⟩ = some (.slice A1 n1 c1) ∧ W.cell? ⟨w.heap.size, 1, none⟩ = some (.slice (some ⟨fb, fo, none⟩) n2 c2) ∧ W.cell? ⟨w.heap.size, 2, none⟩ = some (.slice A3 n3 c3) ∧ W.cell? ⟨w.heap.size + 1, 0, none⟩ = some (.slice B1 m1 d1) ∧ W.cell? ⟨w.heap.size + 1, 1, none⟩ = some (.slice (some ⟨vb, vo, none⟩) m2 d2) ∧ W.cell? ⟨fb, fo + k * 6 + 5, none⟩ = some (.int .i64 F.res)) (by kernel_rfl) (⟨HG4.out.g0, HG4.out.g1, HG4.out.g2, HG4.out.v0, HG4.out.v1, HF4.out.f5⟩) (fun hHeld => ?_)
    refine wpAnyH_take (i := 0) (oi := Oper.mk _ _ _ _ _ _) (v := ?_) rfl (by kernel_rfl) (by kernel_rfl) (by kernel_rfl) (fun _ _ _ h => h) (Or.inl ⟨by rfl, ?_⟩) (by assumption) ?_
    rotate_left
    · (intro w hSw; (try dsimp only at hSw); go_simp; try with_reducible rfl)
    try simp only [Act.put, List.setIfInBounds_toArray, List.set_cons_zero, List.set_cons_succ]
    refine wpAnyH_take (i := 1) (oi := Oper.mk _ _ _ _ _ _) (v := ?_) rfl (by kernel_rfl) (by kernel_rfl) (by kernel_rfl) (fun _ _ _ h => h) (Or.inl ⟨by rfl, ?_⟩) (by assumption) ?_
    rotate_left
    · (intro w hSw; (try dsimp only at hSw); go_simp; try with_reducible rfl)
    try simp only [Act.put, List.setIfInBounds_toArray, List.set_cons_zero, List.set_cons_succ]
    refine wpAnyH_take (i := 2) (oi := Oper.mk _ _ _ _ _ _) (v := ?_) rfl (by kernel_rfl) (by kernel_rfl) (by kernel_rfl) (fun _ _ _ h => h) (Or.inl ⟨by rfl, ?_⟩) (by assumption) ?_
    rotate_left
    · (intro w hSw; (try dsimp only at hSw); go_simp; try with_reducible rfl)
    try simp only [Act.put, List.setIfInBounds_toArray, List.set_cons_zero, List.set_cons_succ]
    refine wpAnyH_take (i := 3) (oi := Oper.mk _ _ _ _ _ _) (v := ?_) rfl (by kernel_rfl) (by kernel_rfl) (by kernel_rfl) (fun _ _ _ h => h) (Or.inl ⟨by rfl, ?_⟩) (by assumption) ?_
    rotate_left
    · (intro w hSw; (try dsimp only at hSw); go_simp; try with_reducible rfl)
    try simp only [Act.put, List.setIfInBounds_toArray, List.set_cons_zero, List.set_cons_succ]
    refine wpAnyH_take (i := 4) (oi := Oper.mk _ _ _ _ _ _) (v := ?_) rfl (by kernel_rfl) (by kernel_rfl) (by kernel_rfl) (fun _ _ _ h => h) (Or.inl ⟨by rfl, ?_⟩) (by assumption) ?_
    rotate_left
    · (intro w hSw; (try dsimp only at hSw); go_simp; try with_reducible rfl)
    try simp only [Act.put, List.setIfInBounds_toArray, List.set_cons_zero, List.set_cons_succ]
    refine wpAnyH_take (i := 5) (oi := Oper.mk _ _ _ _ _ _) (v := ?_) rfl (by kernel_rfl) (by kernel_rfl) (by kernel_rfl) (fun _ _ _ h => h) (Or.inl ⟨by rfl, ?_⟩) (by assumption) ?_
    rotate_left
    · (intro w hSw; (try dsimp only at hSw); go_simp; try with_reducible rfl)
    try simp only [Act.put, List.setIfInBounds_toArray, List.set_cons_zero, List.set_cons_succ]
    refine wpAnyH_take (i := 6) (oi := Oper.mk _ _ _ _ _ _) (v := ?_) rfl (by kernel_rfl) (by kernel_rfl) (by kernel_rfl) (fun _ _ _ h => h) (Or.inl ⟨by rfl, ?_⟩) (by assumption) ?_
    rotate_left
    · (intro w hSw; (try dsimp only at hSw); go_simp; try with_reducible rfl)
    try simp only [Act.put, List.setIfInBounds_toArray, List.set_cons_zero, List.set_cons_succ]
    refine wpAnyH_take (i := 7) (oi := Oper.mk _ _ _ _ _ _) (v := ?_) rfl (by kernel_rfl) (by kernel_rfl) (by kernel_rfl) (fun _ _ _ h => h) (Or.inl ⟨by rfl, ?_⟩) (by assumption) ?_
    rotate_left
    · (intro w hSw; (try dsimp only at hSw); go_simp; try with_reducible rfl)
    try simp only [Act.put, List.setIfInBounds_toArray, List.set_cons_zero, List.set_cons_succ]
    refine wpAnyH_take (i := 8) (oi := Oper.mk _ _ _ _ _ _) (v := ?_) rfl (by kernel_rfl) (by kernel_rfl) (by kernel_rfl) (fun _ _ _ h => h) (Or.inl ⟨by rfl, ?_⟩) (by assumption) ?_
    rotate_left
    · (intro w hSw; (try dsimp only at hSw); go_simp; try with_reducible rfl)
    try simp only [Act.put, List.setIfInBounds_toArray, List.set_cons_zero, List.set_cons_succ]
    refine wpAnyH_ready (rs := [9]) (by kernel_rfl) (by simp) ?_
    refine AllReadyH.cons (o := Oper.mk _ _ _ _ _ _) rfl (fun K hK => ?_) AllReadyH.nil
    go_simp
    go_wp2_with (go_at_call 14; refine (HIr.out _ ?_).mono ?_; exact HB4.out.drew; rintro e w5 ⟨rfl, hb5⟩; have HD := Lib.hid ((Below.refl w4.heap.size w4).drew.trans hb5); have HG5 := Lib.hid (HG4.out.on HD.out); have HF5 := Lib.hid (HF4.out.on HD.out))
    refine hK.out _ _ (⟨HG5.out.g0, HG5.out.g1, HG5.out.g2, HG5.out.v0, HG5.out.v1, HF5.out.f5⟩) (fun hHeld => ?_)
    clear hK K
    try simp only [Act.put, List.setIfInBounds_toArray, List.set_cons_zero, List.set_cons_succ]
    have HB5 := Lib.hid (HB4.out.trans (HD.out.mono HB4.out.size))
    have HW5 := Lib.hid (And.intro ((HD.out.block _ (lt_of_block HW4.out.1)).trans HW4.out.1) ((HD.out.block _ (lt_of_block HW4.out.2)).trans HW4.out.2))
    have HA5 := Lib.hid ((HD.out.block _ (lt_of_block HA4.out)).trans HA4.out)
    clear hb5 HD HG4 HB4 HW4 HA4 HF4 HF5
    refine wpAnyH_take (i := 10) (oi := Oper.mk _ _ _ _ _ _) (v := ?_) rfl (by kernel_rfl) (by kernel_rfl) (by kernel_rfl) (fun _ _ _ h => h) (Or.inl ⟨by rfl, ?_⟩) (by assumption) ?_
    rotate_left
    · (intro w hSw; (try dsimp only at hSw); go_simp; try with_reducible rfl)
    try simp only [Act.put, List.setIfInBounds_toArray, List.set_cons_zero, List.set_cons_succ]
    refine wpAnyH_take (i := 11) (oi := Oper.mk _ _ _ _ _ _) (v := ?_) rfl (by kernel_rfl) (by kernel_rfl) (by kernel_rfl) (fun _ _ _ h => h) (Or.inl ⟨by rfl, ?_⟩) (by assumption) ?_
    rotate_left
    · (intro w hSw; (try dsimp only at hSw); go_simp; try with_reducible rfl)
    try simp only [Act.put, List.setIfInBounds_toArray, List.set_cons_zero, List.set_cons_succ]
    refine wpAnyH_done (by kernel_rfl) ?_ _
    cases q with
    | false =>
      have HR := Lib.hid HE.out
      obtain ⟨y0, y1, yf⟩ := two_cells HW5.out.2
      go_wp2_with fail
      change bodyPost _ _ _ _ _ (set2 w5 (w.heap.size + 1 + 1) (.slice none 0 0) (.slice none 0 0))
      exact with_ret (two_set HW5.out.2 _ _) rfl rfl rfl (HBad.out _ 33 HR.out (by omega) (set2_below HB5.out (by omega) _ _))
    | true =>
      replace HE := Lib.hid (HE.out.trans (if_pos rfl))
      clear hHeld
      obtain ⟨hvl2, Ar, cr, e0, e1, hrl, hels, hrb⟩ := HVc.out w5 HB5.out
      have HRl := Lib.hid hrl
      have HEl := Lib.hid hels
      have HE01 := Lib.hid (And.intro e0 e1)
      have hvl5 : vb < w5.heap.size := Nat.lt_of_lt_of_le hvl2 HB5.out.size
      have HRc := Lib.hid (rows_any hrl (by omega) e0 hvl5)
      have q1 := HG5.out.v1
      clear e0 e1 hrl hels
      go_wp2_with fail
      refine HRc.out.mono ?_
      rintro e w6 ⟨bm, rfl, hm6, hb6, _⟩
      have HB6 := Lib.hid (HB5.out.trans (hb6.mono HB5.out.size))
      have HG6 := Lib.hid (HG5.out.on hb6)
      have HW6 := Lib.hid (And.intro ((hb6.block _ (lt_of_block HW5.out.1)).trans HW5.out.1) ((hb6.block _ (lt_of_block HW5.out.2)).trans HW5.out.2))
      have HA6 := Lib.hid ((hb6.block _ (lt_of_block HA5.out)).trans HA5.out)
      have HE6 := Lib.hid (And.intro (((bcell hb6).1 vb _ hvl5).trans HE01.out.1) (((bcell hb6).1 vb _ hvl5).trans HE01.out.2))
      have HZ6 := Lib.hid (show vb < w.heap.size ∧ w3.heap.size < w6.heap.size from ⟨hvl2, by have := lt_of_block HA6.out; omega⟩)
      have hlk := hm6.look HAi.out
      obtain ⟨z0, z1, z2, _⟩ := arr3 HA6.out
      unfold keyA at hlk
      rw [HO.out]
      clear q1 hm6 hb6 HG5 HB5 HW5 HA5 HE01 HRc hvl5
      have HK := Lib.hid (clone_fvs (R := fun _ vs y => FunValR w vs y) (fun _ vs y h => one_fv w vs y h) (w := w6) (A := some ⟨vb, vo, none⟩) (c := d2) (l := x.funs) (lies_const HFv.out HB6.out) (by have := HX.out.b2; omega))
      rw [hm2] at HK
      generalize hix : idxTo V.rows V.rows.length a = ix at *
      have HIx := Lib.hid hix
      clear hix
      obtain ⟨y0, y1, yf0, yf1⟩ := two_cells HW6.out.1
      go_upto_region 8 with fail
      go_wp2_with fail
      refine HK.out.mono ?_
      rintro e w7 ⟨A', c', rfl, hgr, hb7⟩
      have HB7 := Lib.hid (HB6.out.trans (hb7.mono HB6.out.size))
      have HW7 := Lib.hid (And.intro ((hb7.block _ (lt_of_block HW6.out.1)).trans HW6.out.1) ((hb7.block _ (lt_of_block HW6.out.2)).trans HW6.out.2))
      have HA7 := Lib.hid ((hb7.block _ (lt_of_block HA6.out)).trans HA6.out)
      have hgr' : Grows 2 (fun _ vs y => FunValR w vs y) 56 w6 w6.heap.size w7 (.slice A' x.funs.length c') x.funs := hgr
      obtain ⟨gb, cur, rfl, hgb, hcur, hc1, hc2, hcs, hrow⟩ := grows_block hgr' (by omega)
      have HC := Lib.hid (And.intro hc1 (And.intro hc2 hcs))
      have HCur := Lib.hid hcur
      have HRow := Lib.hid hrow
      obtain ⟨vsV, hv2, ⟨Ar2, cr2, hvs, hl2, hr1, hr2, hel2, hrb2⟩, hcell2⟩ := hrow k V HV.out
      subst hvs
      have hd0 := hcell2 0 _ rfl
      have hd1 := hcell2 1 _ rfl
      rw [Nat.add_zero] at hd0
      have HD := Lib.hid (And.intro hd0 hd1)
      have HL2 := Lib.hid hl2
      have HGb := Lib.hid (show w3.heap.size < gb ∧ w.heap.size + 1 < gb ∧ w.heap.size + 1 + 1 < gb by have := HZ6.out; have := HZ.out; omega)
      obtain ⟨y0', y1', yf0', yf1'⟩ := two_cells HW7.out.1
      clear hb7 hgr hgr' hc1 hc2 hcs hrow hl2 hr1 hr2 hel2 hrb2 hcell2 hd0 hd1 y0 y1 yf0 yf1 HW6 HB6 HA6 HG6 hv2 hcur hgb HK HE6
      go_upto_region 9 with fail
      have HB8 := Lib.hid (HB7.out.setCell (p := ⟨w.heap.size + 1, 1, none⟩) (by simp) (.slice (some ⟨gb, 0, none⟩) m2 c'))
      have HW8 := Lib.hid (And.intro (one_set1 HW7.out.1 (.slice (some ⟨gb, 0, none⟩) m2 c')) (set_keep (c := w.heap.size + 1) (o := 1) (u := .slice (some ⟨gb, 0, none⟩) m2 c') HW7.out.2 (by omega)))
      have HA8 := Lib.hid (set_keep (c := w.heap.size + 1) (o := 1) (u := .slice (some ⟨gb, 0, none⟩) m2 c') HA7.out (by have := HZ.out; omega))
      have HC8 := Lib.hid (set_keep (c := w.heap.size + 1) (o := 1) (u := .slice (some ⟨gb, 0, none⟩) m2 c') HCur.out (by have := HGb.out; omega))
      generalize w7.setCell ⟨w.heap.size + 1, 1, none⟩ (.slice (some ⟨gb, 0, none⟩) m2 c') = w8 at *
      clear HB7 HW7 HA7 HCur y0' y1' yf0' yf1'
      obtain ⟨y0, y1, yf0, yf1⟩ := two_cells HW8.out.1
      have x0 : w8.cell? ⟨gb, k * 2, none⟩ = some (.slice Ar2 V.rows.length cr2) := (cell_of_cells HC8.out _).trans HD.out.1
      have HKr := Lib.hid (clone_rows (R := RowR) one_row (w := w8) (A := Ar2) (c := cr2) (l := V.rows) (HL2.out.on RowR.lasts HB8.out) (by omega))
      go_upto_region 11 with fail
      refine HKr.out.mono ?_
      rintro e w9 ⟨Ar3, cr3, rfl, hgr3, hb9⟩
      have HB9 := Lib.hid (HB8.out.trans (hb9.mono HB8.out.size))
      have HW9 := Lib.hid (And.intro ((hb9.block _ (lt_of_block HW8.out.1)).trans HW8.out.1) ((hb9.block _ (lt_of_block HW8.out.2)).trans HW8.out.2))
      have HA9 := Lib.hid ((hb9.block _ (lt_of_block HA8.out)).trans HA8.out)
      have HC9 := Lib.hid ((hb9.block _ (lt_of_block HC8.out)).trans HC8.out)
      have hgb8 := lt_of_block HC8.out
      have HGr := Lib.hid hgr3
      have HSz9 := Lib.hid hb9.size
      have x0' := ((bcell hb9).1 gb (k * 2) hgb8).trans x0
      have xf : w9.frozen? ⟨gb, k * 2, none⟩ = false := frozen_of_cells HC9.out _
      clear hgr3 hb9 x0 y0 y1 yf0 yf1 HW8 HA8 HC8 HB8 HKr
      go_upto_region 11 with fail
      have hkc : k * 2 < cur.size := (Array.getElem?_eq_some_iff.1 HD.out.1).1
      have HB10 := Lib.hid (HB9.out.setCell (p := ⟨gb, k * 2, none⟩) (by have := HGb.out; simp; omega) (.slice Ar3 V.rows.length cr3))
      have HW10 := Lib.hid (And.intro (set_keep (c := gb) (o := k * 2) (u := .slice Ar3 V.rows.length cr3) HW9.out.1 (by have := HGb.out; omega)) (set_keep (c := gb) (o := k * 2) (u := .slice Ar3 V.rows.length cr3) HW9.out.2 (by have := HGb.out; omega)))
      have HA10 := Lib.hid (set_keep (c := gb) (o := k * 2) (u := .slice Ar3 V.rows.length cr3) HA9.out (by have := HGb.out; omega))
      have HC10 := Lib.hid (set_at (o := k * 2) (u := .slice Ar3 V.rows.length cr3) HC9.out)
      have HS10 := Lib.hid (show w8.heap.size ≤ (w9.setCell ⟨gb, k * 2, none⟩ (.slice Ar3 V.rows.length cr3)).heap.size by simpa [World.setCell] using HSz9.out)
      have HGr10 := Lib.hid (HGr.out.setCell (p := ⟨gb, k * 2, none⟩) (.slice Ar3 V.rows.length cr3) hgb8)
      generalize w9.setCell ⟨gb, k * 2, none⟩ (.slice Ar3 V.rows.length cr3) = w10 at *
      have x0 : w10.cell? ⟨gb, k * 2, none⟩ = some (.slice Ar3 V.rows.length cr3) := (cell_of_cells HC10.out _).trans (set_get_self hkc)
      have xf2 : w10.frozen? ⟨gb, k * 2, none⟩ = false := frozen_of_cells HC10.out _
      have hX1 : (cur.setIfInBounds (k * 2) (.slice Ar3 V.rows.length cr3))[k * 2 + 1]? = some (.int .i64 V.els) := (set_get_other (by omega)).trans HD.out.2
      have HX1 := Lib.hid hX1
      have H400 := Lib.hid h400
      clear HB9 HW9 HA9 HC9 HGr x0' xf hX1 h400
      cases ix with
      | some i =>
        obtain ⟨j, r, rfl, hj, hra, hrow, hhas⟩ := look_some HO.out HIx.out
        have hjl := (List.getElem?_eq_some_iff.1 hj).1
        have hjl2 : (j : Int) < (V.rows.length : Int) := by omega
        have hle : decide ((400 : Int) < (V.rows.length : Int)) = false := decide_eq_false (by have := H400.out; omega)
        have hlen : decide (400 < V.rows.length) = false := decide_eq_false (by have := H400.out; omega)
        obtain ⟨rb, cR, rfl, hrb, hcR, hr1, hr2, _, hrr⟩ := grows_block HGr10.out (by omega)
        obtain ⟨vsr, hvr, ⟨rfl, _⟩, hcr⟩ := hrr j r hj
        have HRR := Lib.hid (rows_set (v := v) HO.out hrr hj (hra.trans HPa.out) HVI.out)
        have HcR := Lib.hid hcR
        have hr3 := hcr 3 _ rfl
        have s0 : w10.cell? ⟨rb, j * 4 + 3, none⟩ = some (.int .i64 r.val) := (cell_of_cells hcR _).trans hr3
        have s1 : w10.frozen? ⟨rb, j * 4 + 3, none⟩ = false := frozen_of_cells hcR _
        have HR12 := Lib.hid (And.intro hr1 hr2)
        have HZr := Lib.hid (show gb < rb by omega)
        have HPut := Lib.hid (show putRow V.rows (padA l) v = V.rows.map (setV (padA l) v) by unfold putRow; rw [if_pos (by rw [← HPa.out]; exact hhas)])
        clear hj hra hrow hhas hr1 hr2 hrr hcr hr3 hcR hrb hvr
        go_upto_region 17 with fail
        have HB11 := Lib.hid (HB10.out.setCell (p := ⟨rb, j * 4 + 3, none⟩) (by have := HGb.out; have := HZr.out; simp; omega) (.int .i64 v))
        have HW11 := Lib.hid (And.intro (set_keep (c := rb) (o := j * 4 + 3) (u := .int .i64 v) HW10.out.1 (by have := HGb.out; have := HZr.out; omega)) (set_keep (c := rb) (o := j * 4 + 3) (u := .int .i64 v) HW10.out.2 (by have := HGb.out; have := HZr.out; omega)))
        have HC11 := Lib.hid (set_keep (c := rb) (o := j * 4 + 3) (u := .int .i64 v) HC10.out (by have := HZr.out; omega))
        have HR11 := Lib.hid (set_at (o := j * 4 + 3) (u := .int .i64 v) HcR.out)
        generalize w10.setCell ⟨rb, j * 4 + 3, none⟩ (.int .i64 v) = w11 at *
        clear HB10 HW10 HC10 HcR s0 s1 x0 xf2 HA10 HGr10
        obtain ⟨y0, y1, yf0, yf1⟩ := two_cells HW11.out.1
        obtain ⟨r0, r1, rf0, rf1⟩ := two_cells HW11.out.2
        go_wp2_with fail
        change bodyPost _ _ _ _ _ (set2 w11 (w.heap.size + 1 + 1) (.slice B1 m1 d1) (.slice (some ⟨gb, 0, none⟩) m2 c'))
        refine with_ret (two_set HW11.out.2 _ _) rfl rfl rfl ?_
        refine with_ok (rows := V.rows.map (setV (padA l) v)) (Ar := some ⟨rb, 0, none⟩) (cr := cr3) (V := V) (cur := cur.setIfInBounds (k * 2) (.slice (some ⟨rb, 0, none⟩) V.rows.length cr3)) (t := 56) ?_ HX.out hm1 hm2 HV.out (set2_below HB11.out (by omega) _ _) (two_keep HC11.out (by have := HGb.out; omega)) (by rw [← hm2]; exact HC.out.1) HC.out.2.1 (fun i y hi hy => ?_) ?_ HX1.out ?_ (by rw [List.length_map]; exact HR12.out.1) HR12.out.2 (by rw [List.length_map]; have := H400.out; omega) HEl.out HPut.out.symm
        · rw [HE.out, HPut.out, List.length_map, if_neg (by have := H400.out; omega)]
        · obtain ⟨vs, e1, e2, e3⟩ := HRow.out i y hy
          refine ⟨vs, e1, e2, fun q u hu => ?_⟩
          have hq : q < 2 := by have := (List.getElem?_eq_some_iff.1 hu).1; omega
          rw [set_get_other (by omega)]
          exact e3 q u hu
        · rw [List.length_map]; exact set_get_self hkc
        · exact lies_of_block (two_keep HR11.out (by have := HGb.out; have := HZr.out; omega)) HRR.out
      | none =>
        obtain ⟨hrow, hhas⟩ := look_none HO.out HIx.out
        have HPut := Lib.hid (show putRow V.rows (padA l) v = V.rows ++ [⟨a.1, a.2.1, a.2.2, v⟩] by unfold putRow; rw [if_neg (by rw [← HPa.out, hhas]; simp), HPa.out])
        obtain ⟨vals, hown, hrv⟩ := HGr10.out.row
        have HOw := Lib.hid hown
        have HRv := Lib.hid hrv
        have hlen4 := hown.1
        obtain ⟨i0, hi0, t0, t1, t2⟩ := info_parts info_row
        have HA := Lib.hid (Cells.new w10.drew [.int .i64 a.1, .int .i64 a.2.1, .int .i64 a.2.2, .int .i64 0] 69 (0, 0))
        have BA := Lib.hid ((Below.refl w10.heap.size w10).drew.alloc (Nat.le_refl _) (.cells #[.int .i64 a.1, .int .i64 a.2.1, .int .i64 a.2.2, .int .i64 0] 69))
        have HBA := Lib.hid (HB10.out.trans (BA.out.mono HB10.out.size))
        have HWA := Lib.hid (And.intro ((BA.out.block _ (lt_of_block HW10.out.1)).trans HW10.out.1) ((BA.out.block _ (lt_of_block HW10.out.2)).trans HW10.out.2))
        have HCA := Lib.hid ((BA.out.block _ (lt_of_block HC10.out)).trans HC10.out)
        have hgb10 := lt_of_block HC10.out
        have HL10 := Lib.hid (HGr10.out.lt)
        obtain ⟨b0, b1, b2, _⟩ := arr3 HA10.out
        have x0a := (cell_of_cells (w := w10.drew.alloc (.cells #[.int .i64 a.1, .int .i64 a.2.1, .int .i64 a.2.2, .int .i64 0] 69)) HCA.out (k * 2)).trans (set_get_self hkc)
        clear hown hrv hrow hhas hlen4
        go_upto_region 13 with fail
        go_region_law (refine step_append_at (by rfl) _ _ _ (by rfl) w8.heap.size 69 i0 (.agg #[.int .i64 0, .int .i64 0, .int .i64 0, .int .i64 0]) 4 32 Tryz.underlying54 hi0 t0 t1 t2 rfl (by decide) (.slice Ar3 V.rows.length cr3) V.rows.length vals (by rfl) (HOw.out.drew.alloc _) (some ⟨w10.heap.size, 0, none⟩) 1 1 [.int .i64 a.1, .int .i64 a.2.1, .int .i64 a.2.2, .int .i64 0] (by rfl) rfl HA.out (by simp [Value.oneCell']) (by unfold maxLen; have := H400.out; omega) (by have := H400.out; omega) (by have := BA.out.size; have := HS10.out; simp at this ⊢; omega) ?_; intro v' w11 hown hgrow hat; obtain ⟨Ar4, cr4, rfl⟩ := shape_of_owns hown; have hc11 := (hgrow.block gb (by simp; omega) (fun e => by have := HL10.out gb e.symm; omega)).trans HCA.out; have x0b := (cell_of_cells hc11 (k * 2)).trans (set_get_self hkc); have xfb : w11.frozen? ⟨gb, k * 2, none⟩ = false := frozen_of_cells hc11 _)
        all_goals
          have hne : ∀ q, q ≤ gb → (Value.slice Ar3 V.rows.length cr3).ownBlock ≠ some q := fun q hq e => by have := HL10.out q e; omega
          have HB11 := Lib.hid (HBA.out.grown hgrow HBA.out.size (fun j hj => by have := HL10.out j hj; have := HGb.out; omega))
          have HW11 := Lib.hid (And.intro ((hgrow.block _ (lt_of_block HWA.out.1) (fun e => hne _ (by have := HGb.out; omega) e.symm)).trans HWA.out.1) ((hgrow.block _ (lt_of_block HWA.out.2) (fun e => hne _ (by have := HGb.out; omega) e.symm)).trans HWA.out.2))
          have HC11 := Lib.hid hc11
          have HOn := Lib.hid hown
          clear hown hgrow hat hc11 x0b xfb hne
          have HB12 := Lib.hid (HB11.out.setCell (p := ⟨gb, k * 2, none⟩) (by have := HGb.out; simp; omega) (.slice Ar4 (V.rows.length + 1) cr4))
          have HW12 := Lib.hid (And.intro (set_keep (c := gb) (o := k * 2) (u := .slice Ar4 (V.rows.length + 1) cr4) HW11.out.1 (by have := HGb.out; omega)) (set_keep (c := gb) (o := k * 2) (u := .slice Ar4 (V.rows.length + 1) cr4) HW11.out.2 (by have := HGb.out; omega)))
          have HC12 := Lib.hid (set_at (o := k * 2) (u := .slice Ar4 (V.rows.length + 1) cr4) HC11.out)
          obtain ⟨rb, cR, hA4, hrb, hcR, hr1, hr2, hsz, htk⟩ := owns_at HOn.out (by omega)
          subst hA4
          have HR12 := Lib.hid (set_keep (c := gb) (o := k * 2) (u := .slice (some ⟨rb, 0, none⟩) (V.rows.length + 1) cr4) hcR (by omega))
          have hk2 : k * 2 < (cur.setIfInBounds (k * 2) (.slice Ar3 V.rows.length cr3)).size := by simp; exact hkc
          go_upto_region 14 with fail
          generalize w11.setCell ⟨gb, k * 2, none⟩ (.slice (some ⟨rb, 0, none⟩) (V.rows.length + 1) cr4) = w12 at *
          have xa : w12.cell? ⟨gb, k * 2, none⟩ = some (.slice (some ⟨rb, 0, none⟩) (V.rows.length + 1) cr4) := (cell_of_cells HC12.out _).trans (set_get_self hk2)
          clear HB11 HW11 HC11 HOn x0a x0 xf2 hcR
          by_cases h4 : 400 < V.rows.length + 1
          · have h4' : decide ((400 : Int) < (V.rows.length : Int) + 1) = true := decide_eq_true (by omega)
            have h4'' : decide (400 < V.rows.length + 1) = true := decide_eq_true h4
            have HR := Lib.hid (show withE g x (k : Int) l v = 2 by rw [HE.out, HPut.out, List.length_append]; exact if_pos h4)
            obtain ⟨r0, r1, rf0, rf1⟩ := two_cells HW12.out.2
            go_wp2_with fail
            change bodyPost _ _ _ _ _ (set2 w12 (w.heap.size + 1 + 1) (.slice none 0 0) (.slice none 0 0))
            exact with_ret (two_set HW12.out.2 _ _) rfl rfl rfl (HBad.out _ 2 HR.out (by omega) (set2_below HB12.out (by omega) _ _))
          · have h4' : decide ((400 : Int) < (V.rows.length : Int) + 1) = false := decide_eq_false (by omega)
            have h4'' : decide (400 < V.rows.length + 1) = false := decide_eq_false h4
            have hat3 : cR[V.rows.length * 4 + 3]? = some (.int .i64 0) := htk _ _ (by rw [List.getElem?_append_right (by have := HOw.out.1; omega), show V.rows.length * 4 + 3 - vals.length = 3 by have := HOw.out.1; omega]; rfl)
            have s0 : w12.cell? ⟨rb, V.rows.length * 4 + 3, none⟩ = some (.int .i64 0) := (cell_of_cells HR12.out _).trans hat3
            have s1 : w12.frozen? ⟨rb, V.rows.length * 4 + 3, none⟩ = false := frozen_of_cells HR12.out _
            have hlt1 : (V.rows.length : Int) < (V.rows.length : Int) + 1 := by omega
            have HPush := Lib.hid (rows_push (l := V.rows) HRv.out HOw.out.1 htk HAi.out HVI.out)
            have HRB := Lib.hid (And.intro hrb (And.intro hr1 hr2))
            have HK2 := Lib.hid hk2
            clear hat3 htk hrb hr1 hr2 hsz hk2
            go_upto_region 17 with fail
            have HB13 := Lib.hid (HB12.out.setCell (p := ⟨rb, V.rows.length * 4 + 3, none⟩) (by have := HGb.out; have := HRB.out.1; simp; omega) (.int .i64 v))
            have HW13 := Lib.hid (And.intro (set_keep (c := rb) (o := V.rows.length * 4 + 3) (u := .int .i64 v) HW12.out.1 (by have := HGb.out; have := HRB.out.1; omega)) (set_keep (c := rb) (o := V.rows.length * 4 + 3) (u := .int .i64 v) HW12.out.2 (by have := HGb.out; have := HRB.out.1; omega)))
            have HC13 := Lib.hid (set_keep (c := rb) (o := V.rows.length * 4 + 3) (u := .int .i64 v) HC12.out (by have := HRB.out.1; omega))
            have HR13 := Lib.hid (set_at (o := V.rows.length * 4 + 3) (u := .int .i64 v) HR12.out)
            generalize w12.setCell ⟨rb, V.rows.length * 4 + 3, none⟩ (.int .i64 v) = w13 at *
            clear HB12 HW12 HC12 HR12 s0 s1 xa
            obtain ⟨y0, y1, yf0, yf1⟩ := two_cells HW13.out.1
            obtain ⟨r0, r1, rf0, rf1⟩ := two_cells HW13.out.2
            go_wp2_with fail
            change bodyPost _ _ _ _ _ (set2 w13 (w.heap.size + 1 + 1) (.slice B1 m1 d1) (.slice (some ⟨gb, 0, none⟩) m2 c'))
            refine with_ret (two_set HW13.out.2 _ _) rfl rfl rfl ?_
            refine with_ok (rows := V.rows ++ [⟨a.1, a.2.1, a.2.2, v⟩]) (Ar := some ⟨rb, 0, none⟩) (cr := cr4) (V := V) (cur := (cur.setIfInBounds (k * 2) (.slice Ar3 V.rows.length cr3)).setIfInBounds (k * 2) (.slice (some ⟨rb, 0, none⟩) (V.rows.length + 1) cr4)) (t := 56) ?_ HX.out hm1 hm2 HV.out (set2_below HB13.out (by omega) _ _) (two_keep HC13.out (by have := HGb.out; omega)) (by rw [← hm2]; exact HC.out.1) HC.out.2.1 (fun i y hi hy => ?_) ?_ ?_ ?_ (by rw [List.length_append]; exact HRB.out.2.1) HRB.out.2.2 (by rw [List.length_append]; have := H400.out; simp; omega) HEl.out HPut.out.symm
            · rw [HE.out, HPut.out, List.length_append]
              exact if_neg h4
            · obtain ⟨vs, e1, e2, e3⟩ := HRow.out i y hy
              refine ⟨vs, e1, e2, fun q u hu => ?_⟩
              have hq : q < 2 := by have := (List.getElem?_eq_some_iff.1 hu).1; omega
              rw [set_get_other (by omega), set_get_other (by omega)]
              exact e3 q u hu
            · rw [List.length_append]; exact set_get_self HK2.out
            · rw [set_get_other (by omega)]; exact HX1.out
            · exact lies_of_block (two_keep HR13.out (by have := HGb.out; have := HRB.out.1; omega)) HPush.out
  · have h0' : (E == 0) = false := beq_eq_false_iff_ne.2 h0
    have h0'' : (E != 0) = true := by rw [bne, h0']; rfl
    have HR := Lib.hid (HEb.out h0)
    go_upto_region 2 with fail
    generalize w3.alloc (.cells #[.int .i64 a.1, .int .i64 a.2.1, .int .i64 a.2.2] 58) = w4 at *
    obtain ⟨y0, y1, yf⟩ := two_cells HW4.out.2
    go_wp2_with fail
    change bodyPost _ _ _ _ _ (set2 w4 (w.heap.size + 1 + 1) (.slice none 0 0) (.slice none 0 0))
    exact with_ret (two_set HW4.out.2 _ _) rfl rfl rfl (HBad.out _ E HR.out h0 (set2_below HB4.out (by omega) _ _))
end Go.Proofs.YtfcmpfaonpnbaaaGreatDoor.Vl
