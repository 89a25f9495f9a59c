import Derived.Test.YtfcmpfaonpnbaaaGreatDoorMw
import Derived.Test.YtfcmpfaonpnbaaaGreatDoorMx
import Derived.Test.YtfcmpfaonpnbaaaGreatDoorMz
/- merged by wip/merge.py from: VRefWith -/
/- The document's value: a world in which a function is changed. -/
namespace Go.Proofs.YtfcmpfaonpnbaaaGreatDoor.Vl
open Go.RowKit Go.Proofs.YtfcmpfaonpnbaaaGreatDoor.Dt Go.Proofs.YtfcmpfaonpnbaaaGreatDoor.Sg

theorem rwith_ret {w : World} {b : Nat} {r0 r1 : Value} {E : Int} {act : Act} {t : TypeId} {R : Ending → World → Prop} (hb : w.heap[b]? = some (.cells #[r0, r1] t (0, 0))) (h8 : act.tmps[10]? = some (.pointer (some ⟨b, 0, none⟩))) (h9 : act.tmps[11]? = some (.int .i64 E)) (hd : act.defers = []) (hR : R (.returned (.tuple #[.agg #[r0, r1], .int .i64 E])) w) :
    bodyPost Tryz.prog Tryz.f10 R .ret act w := by
  obtain ⟨y0, y1, _⟩ := two_cells hb
  refine bodyPost_ret (v := .tuple #[.agg #[r0, r1], .int .i64 E]) ?_ hd hR
  simp [results, Tryz.results10, go_sem, y0, y1, h8, h9]
/-- the boxes while a world is changed -/
structure RW (w W : World) (ab : Nat) (u0 u1 u2 v0 v1 : Value) (a : Int × Int × Int) : Prop where
  gw : GW W w.heap.size (w.heap.size + 1) u0 u1 u2 v0 v1
  wb : W.heap[w.heap.size + 1]? = some (.cells #[v0, v1] 30 (0, 0))
  rb : W.heap[w.heap.size + 1 + 1]? = some (.cells #[.slice none 0 0, .slice none 0 0] 30 (0, 0))
  arr : W.heap[ab]? = some (.cells #[.int .i64 a.1, .int .i64 a.2.1, .int .i64 a.2.2] 58 (0, 0))
  below : Below w.heap.size w W
  la : w.heap.size + 1 + 1 < ab
theorem RW.lt {w W : World} {ab : Nat} {u0 u1 u2 v0 v1 : Value} {a : Int × Int × Int} (h : RW w W ab u0 u1 u2 v0 v1 a) : ab < W.heap.size := lt_of_block h.arr
theorem RW.keep {w W W' : World} {ab : Nat} {u0 u1 u2 v0 v1 : Value} {a : Int × Int × Int} (h : RW w W ab u0 u1 u2 v0 v1 a) (e : ∀ k, k ≤ ab → W'.heap[k]? = W.heap[k]?) (hs : W.heap.size ≤ W'.heap.size) (hb : Below w.heap.size w W') : RW w W' ab u0 u1 u2 v0 v1 a := by
  have la := h.la
  have ec := fun c o (hc : c ≤ ab) => World.cell?_of_block (w := W) (w' := W') (a := ⟨c, o, none⟩) (e c hc)
  exact ⟨⟨(ec _ _ (by omega)).trans h.gw.g0, (ec _ _ (by omega)).trans h.gw.g1, (ec _ _ (by omega)).trans h.gw.g2, (ec _ _ (by omega)).trans h.gw.v0, (ec _ _ (by omega)).trans h.gw.v1, Nat.lt_of_lt_of_le h.gw.lg hs, Nat.lt_of_lt_of_le h.gw.lw hs⟩,
    (e _ (by omega)).trans h.wb, (e _ (by omega)).trans h.rb, (e _ (Nat.le_refl _)).trans h.arr, hb, la⟩
theorem RW.on {w W W' : World} {ab : Nat} {u0 u1 u2 v0 v1 : Value} {a : Int × Int × Int} (h : RW w W ab u0 u1 u2 v0 v1 a) (hb : Below W.heap.size W W') : RW w W' ab u0 u1 u2 v0 v1 a :=
  h.keep (fun k hk => hb.block k (by have := h.lt; omega)) hb.size (h.below.trans (hb.mono h.below.size))
theorem RW.grown {w W W' : World} {ab : Nat} {u0 u1 u2 v0 v1 : Value} {a : Int × Int × Int} (h : RW w W ab u0 u1 u2 v0 v1 a) {row : Option Nat} (hg : W.grownBy W' row) (hr : ∀ k, row = some k → ab < k) : RW w W' ab u0 u1 u2 v0 v1 a :=
  h.keep (fun k hk => hg.block k (by have := h.lt; omega) (fun e => by have := hr k e.symm; omega)) hg.size (h.below.grown hg h.below.size (fun k hk => by have := hr k hk; have := h.la; omega))
theorem RW.set {w W : World} {ab b o : Nat} {u : Value} {u0 u1 u2 v0 v1 : Value} {a : Int × Int × Int} (h : RW w W ab u0 u1 u2 v0 v1 a) (hb : ab < b) : RW w (W.setCell ⟨b, o, none⟩ u) ab u0 u1 u2 v0 v1 a :=
  h.keep (fun k hk => Below.heap_setCell W ⟨b, o, none⟩ u k (by simp; omega)) (by simp [World.setCell]) (h.below.setCell (by have := h.la; simp; omega) u)
theorem grows_set {α : Type} {n : Nat} {R : World → List Value → α → Prop} {t : TypeId} {w0 w : World} {base b o : Nat} {u v : Value} {xs : List α} (h : Grows n R t w0 base w v xs) (hb : v.ownBlock ≠ some b) : Grows n R t w0 base (w.setCell ⟨b, o, none⟩ u) v xs := by
  obtain ⟨vals, ho, hr⟩ := h.row
  refine ⟨vals, ⟨ho.1, ?_⟩, hr⟩
  rcases ho.2 with h1 | ⟨g, cap, cur, h1, h2, h3, h4⟩
  · exact .inl h1
  · exact .inr ⟨g, cap, cur, h1, h2, (Below.heap_setCell w ⟨b, o, none⟩ u g (fun e => by subst e; exact hb (by rw [h1]; rfl))).trans h3, h4⟩
theorem hasA_take {l : List Row} {a : Int × Int × Int} {i : Nat} {r : Row} (hr : l[i]? = some r) : hasA (l.take (i + 1)) a = (hasA (l.take i) a || decide (Row.args r = a)) := by
  unfold hasA
  rw [List.take_add_one, hr, List.any_append]
  simp
theorem map_take {l : List Row} {a : Int × Int × Int} {v : Int} {i : Nat} {r : Row} (hr : l[i]? = some r) : (l.take (i + 1)).map (setV a v) = (l.take i).map (setV a v) ++ [setV a v r] := by
  rw [List.take_add_one, hr, List.map_append]; rfl
theorem map_none {l : List Row} {a : Int × Int × Int} {v : Int} (h : hasA l a = false) : l.map (setV a v) = l := by
  have := hasA_not.1 h
  conv => rhs; rw [← List.map_id l]
  apply List.map_congr_left
  intro r hr
  unfold setV
  rw [if_neg (this r hr)]
  rfl
set_option maxRecDepth 100000 in
set_option maxHeartbeats 12800000 in
theorem rwith_any {w : World} {A1 A2 A3 B1 B2 A : Option Addr} {c1 c2 c3 d1 d2 c : Nat} {g : Sig} {x : Wrld} (hg : SigAt w A1 c1 A2 c2 A3 c3 g) (hx : WrldAt w B1 d1 B2 d2 x) (hl1 : g.sorts.length ≤ 1000000) (hl2 : g.funs.length ≤ 1000000) (hl3 : g.macros.length ≤ 1000000) (hl4 : (x.sizes.length : Int) ≤ 1000000)
    (f : Int) (hf : I64 f) {l : List Int} (hl : Cells w A (l.map (Value.int .i64))) (hli : ∀ y ∈ l, I64 y) (hll : (l.length : Int) ≤ 140737488351232) (v : Int) (hv : I64 v) :
    Calls Tryz.prog 10 #[.agg #[.slice A1 g.sorts.length c1, .slice A2 g.funs.length c2, .slice A3 g.macros.length c3], .agg #[.slice B1 x.sizes.length d1, .slice B2 x.funs.length d2], .int .i64 f, .slice A l.length c, .int .i64 v] w (WithPost g x f l v w) := by
  have HB2 := Lib.hid ((((Below.refl w.heap.size w).alloc (Nat.le_refl _) (.cells #[.slice A1 g.sorts.length c1, .slice A2 g.funs.length c2, .slice A3 g.macros.length c3] 26)).alloc (by simp) (.cells #[.slice B1 x.sizes.length d1, .slice B2 x.funs.length d2] 30)).alloc (by simp; omega) (.cells #[.slice none 0 0, .slice none 0 0] 30))
  have HG2 := Lib.hid ((gw_made w (.slice A1 g.sorts.length c1) (.slice A2 g.funs.length c2) (.slice A3 g.macros.length c3) (.slice B1 x.sizes.length d1) (.slice B2 x.funs.length d2) 26 30).on ((Below.refl _ _).alloc (Nat.le_refl _) (.cells #[.slice none 0 0, .slice none 0 0] 30)))
  have HW2 := Lib.hid (blk_mid w (.cells #[.slice A1 g.sorts.length c1, .slice A2 g.funs.length c2, .slice A3 g.macros.length c3] 26) (.cells #[.slice B1 x.sizes.length d1, .slice B2 x.funs.length d2] 30) (.cells #[.slice none 0 0, .slice none 0 0] 30))
  have HAs := Lib.hid (fun W (hW : Below w.heap.size w W) => rasked_any (w := W) (c := c) (hg.on hW) (hx.on hW) hl1 hl2 hl3 hl4 f hf (hl.on hW) hli hll)
  have HIs := Lib.hid (fun W (hW : Below w.heap.size w W) s => ris_any (A1 := A1) (A2 := A2) (A3 := A3) (B2 := B2) (n1 := g.sorts.length) (c1 := c1) (n2 := g.funs.length) (c2 := c2) (n3 := g.macros.length) (c3 := c3) (d1 := d1) (m := x.funs.length) (d2 := d2) (hx.sizes.on (IntR.lasts _) hW) hl4 (by omega) s v hv)
  have HBad := Lib.hid (fun w' E h h0 hb => with_bad (g := g) (x := x) (f := f) (l := l) (v := v) (w := w) (w' := w') (E := E) h h0 hb)
  have HFn := Lib.hid (ask_fun (g := g) (x := x) (f := f) (l := l))
  have HEb := Lib.hid (withE_bad (g := g) (x := x) (f := f) (l := l) (v := v))
  have HEa := Lib.hid (fun k F V h hF hV => withE_at (g := g) (x := x) (k := k) (l := l) (v := v) (F := F) (V := V) h hF hV)
  obtain ⟨valsF, hf1, hf2, hf3, hf4⟩ := lies_flat (fun W vs y h => one_fv W vs y h) hx.funs
  have HF1 := Lib.hid (show valsF.length = x.funs.length * 2 from hf1)
  have HF2 := Lib.hid hf2
  have HF3 := Lib.hid hf3
  have HF4 := Lib.hid hf4
  have HFv := Lib.hid hx.funs
  have HFf := Lib.hid hg.funs
  have HX := Lib.hid hx
  have HVI := Lib.hid hv
  clear hg hx hl hli hv hf1 hf2 hf3 hf4
  generalize hn1 : g.sorts.length = n1 at *
  generalize hn2 : g.funs.length = n2 at *
  generalize hn3 : g.macros.length = n3 at *
  generalize hm1 : x.sizes.length = m1 at *
  generalize hm2 : x.funs.length = m2 at *
  go_enter Tryz.func10, Tryz.ntmps10
  go_wp2_with fail
  generalize ((w.alloc (.cells #[.slice A1 n1 c1, .slice A2 n2 c2, .slice A3 n3 c3] 26)).alloc (.cells #[.slice B1 m1 d1, .slice B2 m2 d2] 30)).alloc (.cells #[.slice none 0 0, .slice none 0 0] 30) = w2 at *
  refine (HAs.out w2 HB2.out).mono ?_
  rintro e w3 ⟨⟨a, rfl, hai, hae⟩, hb3⟩
  have HB3 := Lib.hid (HB2.out.trans (hb3.mono HB2.out.size))
  have HG3 := Lib.hid (HG2.out.on hb3)
  have HW3 := Lib.hid (And.intro ((hb3.block _ (lt_of_block HW2.out.1)).trans HW2.out.1) ((hb3.block _ (lt_of_block HW2.out.2)).trans HW2.out.2))
  have HAi := Lib.hid hai
  have HAe := Lib.hid hae
  clear hb3 hai hae HG2 HB2 HAs HW2
  unfold keyA
  have HR4 := Lib.hid (show RW w (w3.alloc (.cells #[.int .i64 a.1, .int .i64 a.2.1, .int .i64 a.2.2] 58)) w3.heap.size (.slice A1 n1 c1) (.slice A2 n2 c2) (.slice A3 n3 c3) (.slice B1 m1 d1) (.slice B2 m2 d2) a from by
    have BA := (Below.refl w3.heap.size w3).alloc (Nat.le_refl _) (.cells #[.int .i64 a.1, .int .i64 a.2.1, .int .i64 a.2.2] 58)
    exact ⟨HG3.out.on BA, (BA.block _ (lt_of_block HW3.out.1)).trans HW3.out.1, (BA.block _ (lt_of_block HW3.out.2)).trans HW3.out.2, Array.getElem?_push_size, HB3.out.trans (BA.mono HB3.out.size), lt_of_block HW3.out.2⟩)
  generalize hE : askE g x f l = E at *
  have HEq := Lib.hid hE
  clear hE HG3 HW3 HB3
  by_cases h0 : E = 0
  · subst h0
    obtain ⟨k, V, rfl, hV, hkg, ho, h400⟩ := HFn.out rfl
    obtain ⟨F, hF⟩ : ∃ F, g.funs[k]? = some F := ⟨_, List.getElem?_eq_getElem (by omega)⟩
    have HE := Lib.hid (HEa.out k F V HEq.out hF hV)
    obtain ⟨fb, fo, rfl, hfl⟩ := lies_addr HFf.out hF
    obtain ⟨vb, vo, rfl, hvl⟩ := lies_addr HFv.out hV
    have HFc := Lib.hid (fun W hW => fun6_cells' (W := W) HFf.out hW hF)
    have HVc := Lib.hid (fun W hW => funval_cells' (W := W) HFv.out hW hV)
    have HPa := Lib.hid (HAe.out rfl)
    have HV := Lib.hid hV
    have HF5 := Lib.hid (HF4.out k V hV)
    have hkm : (k : Int) < (m2 : Int) := by rw [← hm2]; have := (List.getElem?_eq_some_iff.1 hV).1; omega
    have hkn : (k : Int) < (n2 : Int) := by rw [← hn2]; omega
    clear hF hV ho HAe HFn HEa HEb
    go_upto_region 2 with fail
    generalize hab : w3.heap.size = ab at *
    clear hab
    generalize w3.alloc (.cells #[.int .i64 a.1, .int .i64 a.2.1, .int .i64 a.2.2] 58) = w4 at *
    have HIr := Lib.hid (fun W hW => HIs.out W hW F.res)
    generalize hq : isB n1 x.sizes F.res v = q at *
    clear hq
    go_wp2_with fail
    refine wp_region_held_drew (S := fun W => (W.cell? ⟨w.heap.size, 0, none⟩ = some (.slice A1 n1 c1) ∧ W.cell? ⟨w.heap.size, 1, none⟩ = some (.slice (some ⟨fb, fo, none⟩) n2 c2) ∧ W.cell? ⟨w.heap.size, 2, none⟩ = some (.slice A3 n3 c3)) ∧ (W.cell? ⟨w.heap.size + 1, 0, none⟩ = some (.slice B1 m1 d1) ∧ W.cell? ⟨w.heap.size + 1, 1, none⟩ = some (.slice (some ⟨vb, vo, none⟩) m2 d2)) ∧ W.cell? ⟨fb, fo + k * 6 + 5, none⟩ = some (.int .i64 F.res)) (by kernel_rfl) (⟨⟨HR4.out.gw.g0, HR4.out.gw.g1, HR4.out.gw.g2⟩, ⟨HR4.out.gw.v0, HR4.out.gw.v1⟩, (HFc.out _ HR4.out.below.drew).2.2.2.2.2⟩) (fun hHeld => ?_)
    refine wpAnyH_take (i := 0) (oi := Oper.mk _ _ _ _ _ _) (v := ?_) rfl (by kernel_rfl) (by kernel_rfl) (by kernel_rfl) (fun _ _ _ h => h) (Or.inl ⟨by rfl, ?_⟩) (by assumption) ?_
    rotate_left
    · (intro w hSw; (try dsimp only at hSw); go_simp; try with_reducible rfl)
    try simp only [Act.put, List.setIfInBounds_toArray, List.set_cons_zero, List.set_cons_succ]
    refine wpAnyH_take (i := 1) (oi := Oper.mk _ _ _ _ _ _) (v := ?_) rfl (by kernel_rfl) (by kernel_rfl) (by kernel_rfl) (fun _ _ _ h => h) (Or.inl ⟨by rfl, ?_⟩) (by assumption) ?_
    rotate_left
    · (intro w hSw; (try dsimp only at hSw); go_simp; try with_reducible rfl)
    try simp only [Act.put, List.setIfInBounds_toArray, List.set_cons_zero, List.set_cons_succ]
    refine wpAnyH_take (i := 2) (oi := Oper.mk _ _ _ _ _ _) (v := ?_) rfl (by kernel_rfl) (by kernel_rfl) (by kernel_rfl) (fun _ _ _ h => h) (Or.inl ⟨by rfl, ?_⟩) (by assumption) ?_
    rotate_left
    · (intro w hSw; (try dsimp only at hSw); go_simp; try with_reducible rfl)
    try simp only [Act.put, List.setIfInBounds_toArray, List.set_cons_zero, List.set_cons_succ]
    refine wpAnyH_take (i := 3) (oi := Oper.mk _ _ _ _ _ _) (v := ?_) rfl (by kernel_rfl) (by kernel_rfl) (by kernel_rfl) (fun _ _ _ h => h) (Or.inl ⟨by rfl, ?_⟩) (by assumption) ?_
    rotate_left
    · (intro w hSw; (try dsimp only at hSw); go_simp; try with_reducible rfl)
    try simp only [Act.put, List.setIfInBounds_toArray, List.set_cons_zero, List.set_cons_succ]
    refine wpAnyH_take (i := 4) (oi := Oper.mk _ _ _ _ _ _) (v := ?_) rfl (by kernel_rfl) (by kernel_rfl) (by kernel_rfl) (fun _ _ _ h => h) (Or.inl ⟨by rfl, ?_⟩) (by assumption) ?_
    rotate_left
    · (intro w hSw; (try dsimp only at hSw); go_simp; try with_reducible rfl)
    try simp only [Act.put, List.setIfInBounds_toArray, List.set_cons_zero, List.set_cons_succ]
    refine wpAnyH_take (i := 5) (oi := Oper.mk _ _ _ _ _ _) (v := ?_) rfl (by kernel_rfl) (by kernel_rfl) (by kernel_rfl) (fun _ _ _ h => h) (Or.inl ⟨by rfl, ?_⟩) (by assumption) ?_
    rotate_left
    · (intro w hSw; (try dsimp only at hSw); go_simp; try with_reducible rfl)
    try simp only [Act.put, List.setIfInBounds_toArray, List.set_cons_zero, List.set_cons_succ]
    refine wpAnyH_take (i := 6) (oi := Oper.mk _ _ _ _ _ _) (v := ?_) rfl (by kernel_rfl) (by kernel_rfl) (by kernel_rfl) (fun _ _ _ h => h) (Or.inl ⟨by rfl, ?_⟩) (by assumption) ?_
    rotate_left
    · (intro w hSw; (try dsimp only at hSw); go_simp; try with_reducible rfl)
    try simp only [Act.put, List.setIfInBounds_toArray, List.set_cons_zero, List.set_cons_succ]
    refine wpAnyH_take (i := 7) (oi := Oper.mk _ _ _ _ _ _) (v := ?_) rfl (by kernel_rfl) (by kernel_rfl) (by kernel_rfl) (fun _ _ _ h => h) (Or.inl ⟨by rfl, ?_⟩) (by assumption) ?_
    rotate_left
    · (intro w hSw; (try dsimp only at hSw); go_simp; try with_reducible rfl)
    try simp only [Act.put, List.setIfInBounds_toArray, List.set_cons_zero, List.set_cons_succ]
    refine wpAnyH_take (i := 8) (oi := Oper.mk _ _ _ _ _ _) (v := ?_) rfl (by kernel_rfl) (by kernel_rfl) (by kernel_rfl) (fun _ _ _ h => h) (Or.inl ⟨by rfl, ?_⟩) (by assumption) ?_
    rotate_left
    · (intro w hSw; (try dsimp only at hSw); go_simp; try with_reducible rfl)
    try simp only [Act.put, List.setIfInBounds_toArray, List.set_cons_zero, List.set_cons_succ]
    refine wpAnyH_ready (rs := [9]) (by kernel_rfl) (by simp) ?_
    refine AllReadyH.cons (o := Oper.mk _ _ _ _ _ _) rfl (fun K hK => ?_) AllReadyH.nil
    go_simp
    go_wp2_with (go_at_call 15; refine (HIr.out _ ?_).mono ?_; exact HR4.out.below.drew; rintro e w5 ⟨rfl, hb5⟩; have HD := Lib.hid ((Below.refl w4.heap.size w4).drew.trans hb5); have HR5 := Lib.hid (HR4.out.on HD.out))
    refine hK.out _ _ (⟨⟨HR5.out.gw.g0, HR5.out.gw.g1, HR5.out.gw.g2⟩, ⟨HR5.out.gw.v0, HR5.out.gw.v1⟩, (HFc.out _ HR5.out.below).2.2.2.2.2⟩) (fun hHeld => ?_)
    clear hK K
    try simp only [Act.put, List.setIfInBounds_toArray, List.set_cons_zero, List.set_cons_succ]
    clear hb5 HD HR4
    cases q with
    | false =>
      refine wpAnyH_take (i := 10) (oi := Oper.mk _ _ _ _ _ _) (v := ?_) rfl (by kernel_rfl) (by kernel_rfl) (by kernel_rfl) (fun _ _ _ h => h) (Or.inl ⟨by rfl, ?_⟩) (by assumption) ?_
      rotate_left
      · (intro w hSw; (try dsimp only at hSw); go_simp; try with_reducible rfl)
      try simp only [Act.put, List.setIfInBounds_toArray, List.set_cons_zero, List.set_cons_succ]
      refine wpAnyH_done (by kernel_rfl) ?_ _
      clear hHeld
      have HR := Lib.hid HE.out
      obtain ⟨y0, y1, yf⟩ := two_cells HR5.out.rb
      go_wp2_with fail
      change bodyPost _ _ _ _ _ (set2 w5 (w.heap.size + 1 + 1) (.slice none 0 0) (.slice none 0 0))
      exact rwith_ret (two_set HR5.out.rb _ _) rfl rfl rfl (HBad.out _ 33 HR.out (by omega) (set2_below HR5.out.below (by omega) _ _))
    | true =>
      refine wpAnyH_take (i := 10) (oi := Oper.mk _ _ _ _ _ _) (v := ?_) rfl (by kernel_rfl) (by kernel_rfl) (by kernel_rfl) (fun _ _ _ h => h) (Or.inl ⟨by rfl, ?_⟩) (by assumption) ?_
      rotate_left
      · (intro w hSw; (try dsimp only at hSw); go_simp; try with_reducible rfl)
      try simp only [Act.put, List.setIfInBounds_toArray, List.set_cons_zero, List.set_cons_succ]
      refine wpAnyH_done (by kernel_rfl) ?_ _
      clear hHeld
      replace HE := Lib.hid (HE.out.trans (if_pos rfl))
      obtain ⟨i0, hi0, z0, z1, z2⟩ := info_parts info_row
      have I0 := Lib.hid hi0
      have I1 := Lib.hid z0
      have I2 := Lib.hid z1
      have I3 := Lib.hid z2
      clear hi0 z0 z1 z2
      obtain ⟨j0, hi0, z0, z1, z2⟩ := info_parts info_fv
      have J0 := Lib.hid hi0
      have J1 := Lib.hid z0
      have J2 := Lib.hid z1
      have J3 := Lib.hid z2
      clear hi0 z0 z1 z2
      go_wp2_with fail
      go_loopw [14, 15, 16] (fun v' t' i' wr => ∃ i : Nat, i ≤ V.rows.length ∧ i' = .int .i64 i ∧ t' = .bool (hasA (V.rows.take i) a) ∧ Grows 4 RowR 69 w w5.heap.size wr v' ((V.rows.take i).map (setV a v)) ∧ Below w5.heap.size w5 wr) (fun _ _ i' _ => V.rows.length - (intOf i').toNat)
      case atStart => exact ⟨0, by omega, rfl, rfl, Grows.nil w5, Below.refl _ _⟩
      case round =>
        obtain ⟨i, hi, rfl, rfl, hg, hb⟩ := hrel
        have HBi := Lib.hid hb
        have HRi := Lib.hid (HR5.out.on hb)
        obtain ⟨hvl2, Ar, cr, e0, e1, hrl, hels, hrb⟩ := HVc.out wr HRi.out.below
        have HRl := Lib.hid hrl
        have HEl := Lib.hid hels
        obtain ⟨vals, ho, hr⟩ := hg.row
        have HLi := Lib.hid (show ((V.rows.take i).map (setV a v)).length = i by simp; omega)
        have hvl : vals.length = ((V.rows.take i).map (setV a v)).length * 4 := ho.1
        rw [HLi.out] at ho
        obtain ⟨Av, cv, rfl⟩ := shape_of_owns ho
        have HG := Lib.hid hg
        have HOw := Lib.hid ho
        have HRr := Lib.hid hr
        have p1 := HRi.out.gw.v1
        have e01 := Lib.hid (And.intro e0 e1)
        clear hb hrl hels hg ho hr e1
        by_cases hil : i < V.rows.length
        · have hil2 : (i : Int) < (V.rows.length : Int) := by omega
          obtain ⟨r, hr⟩ : ∃ r, V.rows[i]? = some r := ⟨_, List.getElem?_eq_getElem hil⟩
          obtain ⟨rb, ro, rfl, hrbl⟩ := lies_addr HRl.out hr
          obtain ⟨r0, r1, r2, r3, hri, hrv⟩ := row_cells' HRl.out (Below.refl _ _) hr
          obtain ⟨a0, a1, a2, _⟩ := arr3 HRi.out.arr
          have HHs := Lib.hid (hasA_take (a := a) hr)
          have HMp := Lib.hid (map_take (a := a) (v := v) hr)
          have hzz := HRi.out.lt
          have HEq2 := Lib.hid (show ∀ W, (Op.equalIn 10000 58 (.agg #[.int .i64 r.a0, .int .i64 r.a1, .int .i64 r.a2]) (.agg #[.int .i64 a.1, .int .i64 a.2.1, .int .i64 a.2.2])).run Tryz.prog W = .ok (eqB (Row.args r) a) W from fun W => a3_eqIn 9998 (Row.args r) a W)
          clear hr
          by_cases he : Row.args r = a
          · have heq := HEq2.out
            rw [eqB_true.2 he] at heq
            have HRI := Lib.hid (show I64 r.a0 ∧ I64 r.a1 ∧ I64 r.a2 ∧ I64 v from ⟨hri.1, hri.2.1, hri.2.2, HVI.out⟩)
            have HSn := Lib.hid (show (V.rows.take (i + 1)).map (setV a v) = (V.rows.take i).map (setV a v) ++ [⟨r.a0, r.a1, r.a2, v⟩] by rw [HMp.out]; unfold setV; rw [if_pos he])
            have HHn := Lib.hid (show Value.bool true = .bool (hasA (V.rows.take (i + 1)) a) by rw [HHs.out, decide_eq_true he]; simp)
            clear he HEq2 hri hrv
            generalize hasA (V.rows.take i) a = ha at *
            have HC := Lib.hid (Cells.new (wr.alloc (.cells #[.int .i64 r.a0, .int .i64 r.a1, .int .i64 r.a2, .int .i64 v] 69)) [.int .i64 r.a0, .int .i64 r.a1, .int .i64 r.a2, .int .i64 v] 69 (0, 0))
            go_wp2_with (at_builtin; refine wpList_append_at rfl (.tmp 69) (.tmp 71) _ rfl w5.heap.size 69 i0 (.agg #[.int .i64 0, .int .i64 0, .int .i64 0, .int .i64 0]) 4 32 Tryz.underlying54 I0.out I1.out I2.out I3.out rfl (by decide) (.slice Av i cv) i vals rfl ((HOw.out.alloc _).alloc _) (some ⟨wr.heap.size + 1, 0, none⟩) 1 1 [.int .i64 r.a0, .int .i64 r.a1, .int .i64 r.a2, .int .i64 v] rfl rfl (by have := HC.out; simp at this; exact this) (by simp [Value.oneCell']) (by unfold maxLen; omega) (by omega) (by have := HBi.out.size; simp; omega) ?_)
            intro v' w8 hown hgr hat
            have HG8 := Lib.hid (show Grows 4 RowR 69 w w5.heap.size w8 v' ((V.rows.take (i + 1)).map (setV a v)) from by
              rw [HSn.out]
              exact Grows.push (vs := [.int .i64 r.a0, .int .i64 r.a1, .int .i64 r.a2, .int .i64 v]) hvl HRr.out (by rw [HLi.out]; exact hown) ⟨rfl, HRI.out⟩ rfl)
            have HB8 := Lib.hid (((HBi.out.alloc HBi.out.size (.cells #[.int .i64 r.a0, .int .i64 r.a1, .int .i64 r.a2, .int .i64 v] 69)).alloc (by have := HBi.out.size; simp; omega) (.cells #[.int .i64 r.a0, .int .i64 r.a1, .int .i64 r.a2, .int .i64 v] 69)).grown hgr (by have := HBi.out.size; simp; omega) (fun q hq => (HOw.out.lt q hq).1))
            clear hown hgr hat
            go_wp2_with fail
            go_roundw
            case rel => exact ⟨i + 1, by omega, by go_num, HHn.out, HG8.out, HB8.out⟩
            case measure => simp [intOf]; omega
          · have heq := HEq2.out
            rw [eqB_false.2 he] at heq
            have HRI := Lib.hid (show I64 r.a0 ∧ I64 r.a1 ∧ I64 r.a2 ∧ I64 r.val from ⟨hri.1, hri.2.1, hri.2.2, hrv⟩)
            have HSn := Lib.hid (show (V.rows.take (i + 1)).map (setV a v) = (V.rows.take i).map (setV a v) ++ [⟨r.a0, r.a1, r.a2, r.val⟩] by rw [HMp.out]; unfold setV; rw [if_neg he])
            have HHn := Lib.hid (show Value.bool (hasA (V.rows.take i) a) = .bool (hasA (V.rows.take (i + 1)) a) by rw [HHs.out, decide_eq_false he]; simp)
            clear he HEq2 hri hrv
            generalize hasA (V.rows.take i) a = ha at *
            have HC := Lib.hid (Cells.new (wr.alloc (.cells #[.int .i64 r.a0, .int .i64 r.a1, .int .i64 r.a2, .int .i64 r.val] 69)) [.int .i64 r.a0, .int .i64 r.a1, .int .i64 r.a2, .int .i64 r.val] 69 (0, 0))
            go_wp2_with (at_builtin; refine wpList_append_at rfl (.tmp 69) (.tmp 71) _ rfl w5.heap.size 69 i0 (.agg #[.int .i64 0, .int .i64 0, .int .i64 0, .int .i64 0]) 4 32 Tryz.underlying54 I0.out I1.out I2.out I3.out rfl (by decide) (.slice Av i cv) i vals rfl ((HOw.out.alloc _).alloc _) (some ⟨wr.heap.size + 1, 0, none⟩) 1 1 [.int .i64 r.a0, .int .i64 r.a1, .int .i64 r.a2, .int .i64 r.val] rfl rfl (by have := HC.out; simp at this; exact this) (by simp [Value.oneCell']) (by unfold maxLen; omega) (by omega) (by have := HBi.out.size; simp; omega) ?_)
            intro v' w8 hown hgr hat
            have HG8 := Lib.hid (show Grows 4 RowR 69 w w5.heap.size w8 v' ((V.rows.take (i + 1)).map (setV a v)) from by
              rw [HSn.out]
              exact Grows.push (vs := [.int .i64 r.a0, .int .i64 r.a1, .int .i64 r.a2, .int .i64 r.val]) hvl HRr.out (by rw [HLi.out]; exact hown) ⟨rfl, HRI.out⟩ rfl)
            have HB8 := Lib.hid (((HBi.out.alloc HBi.out.size (.cells #[.int .i64 r.a0, .int .i64 r.a1, .int .i64 r.a2, .int .i64 r.val] 69)).alloc (by have := HBi.out.size; simp; omega) (.cells #[.int .i64 r.a0, .int .i64 r.a1, .int .i64 r.a2, .int .i64 r.val] 69)).grown hgr (by have := HBi.out.size; simp; omega) (fun q hq => (HOw.out.lt q hq).1))
            clear hown hgr hat
            go_wp2_with fail
            go_roundw
            case rel => exact ⟨i + 1, by omega, by go_num, HHn.out, HG8.out, HB8.out⟩
            case measure => simp [intOf]; omega
        · obtain rfl : i = V.rows.length := by omega
          have HGr0 := Lib.hid (show Grows 4 RowR 69 w w5.heap.size wr (.slice Av V.rows.length cv) (V.rows.map (setV a v)) from by have h := HG.out; rw [List.take_length] at h; exact h)
          have HRd := Lib.hid (show 400 ≥ V.rows.length from h400)
          have hb2 := HX.out.b2
          rw [hm2] at hb2
          rw [List.take_length]
          have HLn := Lib.hid (show (V.rows.map (setV a v)).length = V.rows.length by simp)
          cases hh : hasA V.rows a with
          | true =>
            have HPut := Lib.hid (show V.rows.map (setV a v) = putRow V.rows (padA l) v by rw [← HPa.out]; unfold putRow; rw [if_pos hh])
            have HWe := Lib.hid (show withE g x (k : Int) l v = 0 by rw [HE.out, ← HPut.out, HLn.out, if_neg (by omega)])
            have hle : decide ((400 : Int) < (V.rows.length : Int)) = false := decide_eq_false (by omega)
            have hle2 : decide (400 < V.rows.length) = false := decide_eq_false (by omega)
            have HR6 := HRi
            have HGr := HGr0
            clear hh HG HOw HRr HGr0 HRi
            have HShp := Lib.hid HGr.out.shape
            obtain ⟨q0, q1, q2, p0, p1, _, _⟩ := HR6.out.gw
            go_wp2_with (at_builtin; refine wpList_append_at rfl (.tmp 85) (.tmp 87) _ rfl wr.heap.size 56 j0 (.agg #[.slice none 0 0, .int .i64 0]) 2 32 Tryz.underlying28 J0.out J1.out J2.out J3.out rfl (by decide) (.slice none 0 0) 0 [] rfl ⟨rfl, .inl ⟨rfl, rfl⟩⟩ (some ⟨vb, vo, none⟩) m2 d2 valsF rfl HF1.out (HF2.out.on HR6.out.below) HF3.out (by unfold maxLen; omega) (by omega) (Nat.le_refl _) ?_)
            intro v' w7 hown hgr hat
            obtain ⟨Af, cf, rfl⟩ := shape_of_owns hown
            obtain ⟨gb, cur, rfl, hgb, hcur, hc1, hc2, hcs, htk⟩ := owns_at hown (by omega)
            have HR7 := Lib.hid (HR6.out.grown hgr (fun j hj => by cases hj))
            have HG7 := Lib.hid (grows_on HGr.out hgr (fun j hj => by cases hj))
            obtain ⟨vsV, hv2, ⟨Ar3, cr3, hvs, _⟩, hcell⟩ := HF5.out
            have hvs' := hvs
            subst hvs'
            have hd0 := htk _ _ (hcell 0 _ rfl)
            have hd1 := htk _ _ (hcell 1 _ rfl)
            rw [Nat.add_zero] at hd0
            have hkc : k * 2 < cur.size := (Array.getElem?_eq_some_iff.1 hd0).1
            have x0 : w7.cell? ⟨gb, k * 2, none⟩ = some (.slice Ar3 V.rows.length cr3) := (cell_of_cells hcur _).trans hd0
            have xf : w7.frozen? ⟨gb, k * 2, none⟩ = false := frozen_of_cells hcur _
            have HC8 := Lib.hid (set_at (o := k * 2) (u := .slice Av (V.rows.length) cv) hcur)
            have HR8 := Lib.hid (HR7.out.set (b := gb) (o := k * 2) (u := .slice Av (V.rows.length) cv) (by have := HR6.out.lt; omega))
            have HG8 := Lib.hid (grows_set (b := gb) (o := k * 2) (u := .slice Av (V.rows.length) cv) HG7.out (fun e => by have := (HGr.out.lt gb e).2; omega))
            have HCu := Lib.hid (And.intro hc1 (And.intro hc2 (And.intro hd1 htk)))
            have HGB := Lib.hid (show w.heap.size + 1 + 1 < gb by have := HR6.out.lt; have := HR6.out.la; omega)
            have HKc := Lib.hid hkc
            clear hown hgr hat hcur hc1 hc2 hcs hd0 hd1 htk hgb hcell hkc hv2 hvs q0 q1 q2 p0 p1
            go_upto_region 23 with fail
            clear x0 xf
            generalize w7.setCell ⟨gb, k * 2, none⟩ (.slice Av (V.rows.length) cv) = w8 at *
            obtain ⟨y0, y1, yf0, yf1⟩ := two_cells HR8.out.wb
            have HB9 := Lib.hid (HR8.out.below.setCell (p := ⟨w.heap.size + 1, 1, none⟩) (by simp) (.slice (some ⟨gb, 0, none⟩) m2 cf))
            have HW9 := Lib.hid (one_set1 HR8.out.wb (.slice (some ⟨gb, 0, none⟩) m2 cf))
            have HP9 := Lib.hid (set_keep (c := w.heap.size + 1) (o := 1) (u := .slice (some ⟨gb, 0, none⟩) m2 cf) HR8.out.rb (by omega))
            have HC9 := Lib.hid (set_keep (c := w.heap.size + 1) (o := 1) (u := .slice (some ⟨gb, 0, none⟩) m2 cf) HC8.out (by have := HGB.out; omega))
            have HG9 := Lib.hid (grows_set (b := w.heap.size + 1) (o := 1) (u := .slice (some ⟨gb, 0, none⟩) m2 cf) HG8.out (fun e => by have := (HG8.out.lt _ e).1; have := HR5.out.lt; have := HR5.out.la; omega))
            go_upto_region 24 with fail
            generalize w8.setCell ⟨w.heap.size + 1, 1, none⟩ (.slice (some ⟨gb, 0, none⟩) m2 cf) = w9 at *
            clear y0 y1 yf0 yf1
            obtain ⟨y0, y1, yf0, yf1⟩ := two_cells HW9.out
            obtain ⟨r0, r1, rf0, rf1⟩ := two_cells HP9.out
            go_wp2_with fail
            change bodyPost _ _ _ _ _ (set2 w9 (w.heap.size + 1 + 1) (.slice B1 m1 d1) (.slice (some ⟨gb, 0, none⟩) m2 cf))
            refine rwith_ret (two_set HP9.out _ _) rfl rfl rfl ?_
            have HL9 := Lib.hid (show Lies 4 RowR (set2 w9 (w.heap.size + 1 + 1) (.slice B1 m1 d1) (.slice (some ⟨gb, 0, none⟩) m2 cf)) Av (V.rows.map (setV a v)) from
              Grows.lies (c := cv) (w0 := w) (base := w5.heap.size) (t := 69) RowR.lasts (set2_below HB9.out (by omega) _ _) (by
                rw [HLn.out]
                have hlt : (Value.slice Av (V.rows.length) cv).ownBlock ≠ some (w.heap.size + 1 + 1) := fun e => by have := (HG9.out.lt _ e).1; have := HR5.out.lt; have := HR5.out.la; omega
                exact grows_set (grows_set HG9.out hlt) hlt))
            obtain ⟨A9, c9, s1, s2, s3⟩ := HShp.out
            rw [HLn.out] at s1 s2
            simp only [Value.slice.injEq, true_and] at s1
            obtain ⟨rfl, rfl⟩ := s1
            refine with_ok (rows := (V.rows.map (setV a v))) (Ar := Av) (cr := cv) (V := V) (cur := cur.setIfInBounds (k * 2) (.slice Av (V.rows.length) cv)) (t := 56) ?_ HX.out hm1 hm2 HV.out (set2_below HB9.out (by omega) _ _) (two_keep HC9.out (by have := HGB.out; omega)) HCu.out.1 HCu.out.2.1 (fun i y hi hy => ?_) ?_ ?_ HL9.out (by rw [HLn.out]; exact s2) s3 (by rw [HLn.out]; omega) HEl.out HPut.out
            · exact HWe.out
            · obtain ⟨vs, e1, e2, e3⟩ := HF4.out i y hy
              refine ⟨vs, e1, e2, fun q u hu => ?_⟩
              have hq : q < 2 := by have := (List.getElem?_eq_some_iff.1 hu).1; omega
              rw [set_get_other (by omega)]
              exact HCu.out.2.2.2 _ _ (e3 q u hu)
            · rw [HLn.out]; exact set_get_self HKc.out
            · rw [set_get_other (by omega)]; exact HCu.out.2.2.1
          | false =>
            have HNo := Lib.hid (map_none (v := v) hh)
            have HPut := Lib.hid (show V.rows ++ [⟨a.1, a.2.1, a.2.2, v⟩] = putRow V.rows (padA l) v by rw [← HPa.out]; unfold putRow; rw [if_neg (by rw [hh]; simp)])
            have HG1 := Lib.hid (show Grows 4 RowR 69 w w5.heap.size wr (.slice Av V.rows.length cv) V.rows from by have h := HGr0.out; rw [HNo.out] at h; exact h)
            clear hh HG HOw HRr HGr0 HLn HNo
            obtain ⟨vals, ho, hr⟩ := HG1.out.row
            have HOw := Lib.hid ho
            have HRr := Lib.hid hr
            have hvl : vals.length = V.rows.length * 4 := ho.1
            have HC := Lib.hid (Cells.new wr [.int .i64 a.1, .int .i64 a.2.1, .int .i64 a.2.2, .int .i64 v] 69 (0, 0))
            obtain ⟨a0, a1, a2, _⟩ := arr3 HRi.out.arr
            clear ho hr
            go_wp2_with (at_builtin; refine wpList_append_at rfl (.tmp 75) (.tmp 79) _ rfl w5.heap.size 69 i0 (.agg #[.int .i64 0, .int .i64 0, .int .i64 0, .int .i64 0]) 4 32 Tryz.underlying54 I0.out I1.out I2.out I3.out rfl (by decide) (.slice Av V.rows.length cv) V.rows.length vals rfl (HOw.out.alloc _) (some ⟨wr.heap.size, 0, none⟩) 1 1 [.int .i64 a.1, .int .i64 a.2.1, .int .i64 a.2.2, .int .i64 v] rfl rfl HC.out (by simp [Value.oneCell']) (by unfold maxLen; omega) (by omega) (by have := HBi.out.size; simp; omega) ?_)
            intro v' w8 hown hgr hat
            have HGr := Lib.hid (show Grows 4 RowR 69 w w5.heap.size w8 v' (V.rows ++ [⟨a.1, a.2.1, a.2.2, v⟩]) from
              Grows.push (vs := [.int .i64 a.1, .int .i64 a.2.1, .int .i64 a.2.2, .int .i64 v]) hvl HRr.out hown ⟨rfl, HAi.out.1, HAi.out.2.1, HAi.out.2.2, HVI.out⟩ rfl)
            have HR6 := Lib.hid ((HRi.out.on ((Below.refl _ _).alloc (Nat.le_refl _) (.cells #[.int .i64 a.1, .int .i64 a.2.1, .int .i64 a.2.2, .int .i64 v] 69))).grown hgr (fun q hq => by have := (HOw.out.lt q hq).1; have := HR5.out.lt; omega))
            obtain ⟨A9', c9', rfl⟩ := shape_of_owns hown
            clear hown hgr hat HC HOw HRr HG1 a0 a1 a2 hvl HRi HBi
            have HLn := Lib.hid (show (V.rows ++ [(⟨a.1, a.2.1, a.2.2, v⟩ : Row)]).length = V.rows.length + 1 by simp)
            by_cases h4 : 400 < V.rows.length + 1
            · have h4' : decide ((400 : Int) < (V.rows.length : Int) + 1) = true := decide_eq_true (by omega)
              have h4'' : decide (400 < V.rows.length + 1) = true := decide_eq_true h4
              have HR := Lib.hid (show withE g x (k : Int) l v = 2 by rw [HE.out, ← HPut.out, HLn.out, if_pos h4])
              obtain ⟨r0, r1, rf0, rf1⟩ := two_cells HR6.out.rb
              go_wp2_with fail
              change bodyPost _ _ _ _ _ (set2 w8 (w.heap.size + 1 + 1) (.slice none 0 0) (.slice none 0 0))
              exact rwith_ret (two_set HR6.out.rb _ _) rfl rfl rfl (HBad.out _ 2 HR.out (by omega) (set2_below HR6.out.below (by omega) _ _))
            · have hle : decide ((400 : Int) < (V.rows.length : Int) + 1) = false := decide_eq_false (by omega)
              have hle2 : decide (400 < V.rows.length + 1) = false := decide_eq_false h4
              have HWe := Lib.hid (show withE g x (k : Int) l v = 0 by rw [HE.out, ← HPut.out, HLn.out, if_neg h4])
              have HShp := Lib.hid HGr.out.shape
              obtain ⟨q0, q1, q2, p0, p1, _, _⟩ := HR6.out.gw
              go_wp2_with (at_builtin; refine wpList_append_at rfl (.tmp 85) (.tmp 87) _ rfl w8.heap.size 56 j0 (.agg #[.slice none 0 0, .int .i64 0]) 2 32 Tryz.underlying28 J0.out J1.out J2.out J3.out rfl (by decide) (.slice none 0 0) 0 [] rfl ⟨rfl, .inl ⟨rfl, rfl⟩⟩ (some ⟨vb, vo, none⟩) m2 d2 valsF rfl HF1.out (HF2.out.on HR6.out.below) HF3.out (by unfold maxLen; omega) (by omega) (Nat.le_refl _) ?_)
              intro v' w7 hown hgr hat
              obtain ⟨Af, cf, rfl⟩ := shape_of_owns hown
              obtain ⟨gb, cur, rfl, hgb, hcur, hc1, hc2, hcs, htk⟩ := owns_at hown (by omega)
              have HR7 := Lib.hid (HR6.out.grown hgr (fun j hj => by cases hj))
              have HG7 := Lib.hid (grows_on HGr.out hgr (fun j hj => by cases hj))
              obtain ⟨vsV, hv2, ⟨Ar3, cr3, hvs, _⟩, hcell⟩ := HF5.out
              have hvs' := hvs
              subst hvs'
              have hd0 := htk _ _ (hcell 0 _ rfl)
              have hd1 := htk _ _ (hcell 1 _ rfl)
              rw [Nat.add_zero] at hd0
              have hkc : k * 2 < cur.size := (Array.getElem?_eq_some_iff.1 hd0).1
              have x0 : w7.cell? ⟨gb, k * 2, none⟩ = some (.slice Ar3 V.rows.length cr3) := (cell_of_cells hcur _).trans hd0
              have xf : w7.frozen? ⟨gb, k * 2, none⟩ = false := frozen_of_cells hcur _
              have HC8 := Lib.hid (set_at (o := k * 2) (u := .slice A9' (V.rows.length + 1) c9') hcur)
              have HR8 := Lib.hid (HR7.out.set (b := gb) (o := k * 2) (u := .slice A9' (V.rows.length + 1) c9') (by have := HR6.out.lt; omega))
              have HG8 := Lib.hid (grows_set (b := gb) (o := k * 2) (u := .slice A9' (V.rows.length + 1) c9') HG7.out (fun e => by have := (HGr.out.lt gb e).2; omega))
              have HCu := Lib.hid (And.intro hc1 (And.intro hc2 (And.intro hd1 htk)))
              have HGB := Lib.hid (show w.heap.size + 1 + 1 < gb by have := HR6.out.lt; have := HR6.out.la; omega)
              have HKc := Lib.hid hkc
              clear hown hgr hat hcur hc1 hc2 hcs hd0 hd1 htk hgb hcell hkc hv2 hvs q0 q1 q2 p0 p1
              go_upto_region 23 with fail
              clear x0 xf
              generalize w7.setCell ⟨gb, k * 2, none⟩ (.slice A9' (V.rows.length + 1) c9') = w8 at *
              obtain ⟨y0, y1, yf0, yf1⟩ := two_cells HR8.out.wb
              have HB9 := Lib.hid (HR8.out.below.setCell (p := ⟨w.heap.size + 1, 1, none⟩) (by simp) (.slice (some ⟨gb, 0, none⟩) m2 cf))
              have HW9 := Lib.hid (one_set1 HR8.out.wb (.slice (some ⟨gb, 0, none⟩) m2 cf))
              have HP9 := Lib.hid (set_keep (c := w.heap.size + 1) (o := 1) (u := .slice (some ⟨gb, 0, none⟩) m2 cf) HR8.out.rb (by omega))
              have HC9 := Lib.hid (set_keep (c := w.heap.size + 1) (o := 1) (u := .slice (some ⟨gb, 0, none⟩) m2 cf) HC8.out (by have := HGB.out; omega))
              have HG9 := Lib.hid (grows_set (b := w.heap.size + 1) (o := 1) (u := .slice (some ⟨gb, 0, none⟩) m2 cf) HG8.out (fun e => by have := (HG8.out.lt _ e).1; have := HR5.out.lt; have := HR5.out.la; omega))
              go_upto_region 24 with fail
              generalize w8.setCell ⟨w.heap.size + 1, 1, none⟩ (.slice (some ⟨gb, 0, none⟩) m2 cf) = w9 at *
              clear y0 y1 yf0 yf1
              obtain ⟨y0, y1, yf0, yf1⟩ := two_cells HW9.out
              obtain ⟨r0, r1, rf0, rf1⟩ := two_cells HP9.out
              go_wp2_with fail
              change bodyPost _ _ _ _ _ (set2 w9 (w.heap.size + 1 + 1) (.slice B1 m1 d1) (.slice (some ⟨gb, 0, none⟩) m2 cf))
              refine rwith_ret (two_set HP9.out _ _) rfl rfl rfl ?_
              have HL9 := Lib.hid (show Lies 4 RowR (set2 w9 (w.heap.size + 1 + 1) (.slice B1 m1 d1) (.slice (some ⟨gb, 0, none⟩) m2 cf)) A9' (V.rows ++ [⟨a.1, a.2.1, a.2.2, v⟩]) from
                Grows.lies (c := c9') (w0 := w) (base := w5.heap.size) (t := 69) RowR.lasts (set2_below HB9.out (by omega) _ _) (by
                  rw [HLn.out]
                  have hlt : (Value.slice A9' (V.rows.length + 1) c9').ownBlock ≠ some (w.heap.size + 1 + 1) := fun e => by have := (HG9.out.lt _ e).1; have := HR5.out.lt; have := HR5.out.la; omega
                  exact grows_set (grows_set HG9.out hlt) hlt))
              obtain ⟨A9, c9, s1, s2, s3⟩ := HShp.out
              rw [HLn.out] at s1 s2
              simp only [Value.slice.injEq, true_and] at s1
              obtain ⟨rfl, rfl⟩ := s1
              refine with_ok (rows := (V.rows ++ [⟨a.1, a.2.1, a.2.2, v⟩])) (Ar := A9') (cr := c9') (V := V) (cur := cur.setIfInBounds (k * 2) (.slice A9' (V.rows.length + 1) c9')) (t := 56) ?_ HX.out hm1 hm2 HV.out (set2_below HB9.out (by omega) _ _) (two_keep HC9.out (by have := HGB.out; omega)) HCu.out.1 HCu.out.2.1 (fun i y hi hy => ?_) ?_ ?_ HL9.out (by rw [HLn.out]; exact s2) s3 (by rw [HLn.out]; omega) HEl.out HPut.out
              · exact HWe.out
              · obtain ⟨vs, e1, e2, e3⟩ := HF4.out i y hy
                refine ⟨vs, e1, e2, fun q u hu => ?_⟩
                have hq : q < 2 := by have := (List.getElem?_eq_some_iff.1 hu).1; omega
                rw [set_get_other (by omega)]
                exact HCu.out.2.2.2 _ _ (e3 q u hu)
              · rw [HLn.out]; exact set_get_self HKc.out
              · rw [set_get_other (by omega)]; exact HCu.out.2.2.1
  · have h0' : (E == 0) = false := beq_eq_false_iff_ne.2 h0
    have h0'' : (E != 0) = true := by rw [bne, h0']; rfl
    have HR := Lib.hid (HEb.out h0)
    go_upto_region 2 with fail
    generalize hab : w3.heap.size = ab at *
    clear hab
    generalize w3.alloc (.cells #[.int .i64 a.1, .int .i64 a.2.1, .int .i64 a.2.2] 58) = w4 at *
    obtain ⟨y0, y1, yf⟩ := two_cells HR4.out.rb
    go_wp2_with fail
    change bodyPost _ _ _ _ _ (set2 w4 (w.heap.size + 1 + 1) (.slice none 0 0) (.slice none 0 0))
    exact rwith_ret (two_set HR4.out.rb _ _) rfl rfl rfl (HBad.out _ E HR.out h0 (set2_below HR4.out.below (by omega) _ _))
end Go.Proofs.YtfcmpfaonpnbaaaGreatDoor.Vl
