import Derived.Test.YtfcmpfaonpnbaaaGreatDoorMs
import Derived.Test.YtfcmpfaonpnbaaaGreatDoorMv
/- merged by wip/merge.py from: VRefAsk VRefApply -/
/- The document's value: arguments, or why they may not be. -/
namespace Go.Proofs.YtfcmpfaonpnbaaaGreatDoor.Vl
open Go.RowKit Go.Proofs.YtfcmpfaonpnbaaaGreatDoor.Dt Go.Proofs.YtfcmpfaonpnbaaaGreatDoor.Sg

theorem rask_ret {w : World} {b : Nat} {a : Int × Int × Int} {E : Int} {act : Act} {t : TypeId} {R : Ending → World → Prop} (hb : w.heap[b]? = some (.cells #[.int .i64 a.1, .int .i64 a.2.1, .int .i64 a.2.2] t (0, 0))) (h8 : act.tmps[8]? = some (.pointer (some ⟨b, 0, none⟩))) (h9 : act.tmps[9]? = some (.int .i64 E)) (hd : act.defers = []) (hR : R (.returned (.tuple #[keyA a, .int .i64 E])) w) :
    bodyPost Tryz.prog Tryz.f25 R .ret act w := by
  obtain ⟨y0, y1, y2, _⟩ := arr3 hb
  refine bodyPost_ret (v := .tuple #[keyA a, .int .i64 E]) ?_ hd hR
  unfold keyA
  simp [results, Tryz.results25, go_sem, y0, y1, y2, h8, h9]
/-- the boxes while arguments are asked -/
structure RAsk (W : World) (b : Nat) (u0 u1 u2 v0 v1 : Value) (a : Int × Int × Int) : Prop where
  gw : GW W b (b + 1) u0 u1 u2 v0 v1
  z : W.heap[b + 2]? = some (.cells #[.int .i64 0, .int .i64 0, .int .i64 0] 58 (0, 0))
  a : W.heap[b + 3]? = some (.cells #[.int .i64 a.1, .int .i64 a.2.1, .int .i64 a.2.2] 58 (0, 0))
theorem RAsk.on {W W' : World} {b : Nat} {u0 u1 u2 v0 v1 : Value} {a : Int × Int × Int} (h : RAsk W b u0 u1 u2 v0 v1 a) (hb : Below W.heap.size W W') : RAsk W' b u0 u1 u2 v0 v1 a :=
  ⟨h.gw.on hb, (hb.block _ (lt_of_block h.z)).trans h.z, (hb.block _ (lt_of_block h.a)).trans h.a⟩
theorem rask_made (w : World) (u0 u1 u2 v0 v1 : Value) (t1 t2 : TypeId) :
    RAsk ((((w.alloc (.cells #[u0, u1, u2] t1)).alloc (.cells #[v0, v1] t2)).alloc (.cells #[.int .i64 0, .int .i64 0, .int .i64 0] 58)).alloc (.cells #[.int .i64 0, .int .i64 0, .int .i64 0] 58)) w.heap.size u0 u1 u2 v0 v1 (0, 0, 0) := by
  have hg := gw_made w u0 u1 u2 v0 v1 t1 t2
  have z2 : ((w.alloc (.cells #[u0, u1, u2] t1)).alloc (.cells #[v0, v1] t2)).heap.size = w.heap.size + 2 := by simp
  generalize (w.alloc (.cells #[u0, u1, u2] t1)).alloc (.cells #[v0, v1] t2) = w2 at *
  have z3 : (w2.alloc (.cells #[.int .i64 0, .int .i64 0, .int .i64 0] 58)).heap.size = w.heap.size + 3 := by simp; omega
  have a3 : (w2.alloc (.cells #[.int .i64 0, .int .i64 0, .int .i64 0] 58)).heap[w.heap.size + 2]? = some (.cells #[.int .i64 0, .int .i64 0, .int .i64 0] 58 (0, 0)) := by rw [← z2]; exact Array.getElem?_push_size
  have B3 := (Below.refl w2.heap.size w2).alloc (Nat.le_refl _) (.cells #[.int .i64 0, .int .i64 0, .int .i64 0] 58)
  have hg3 := hg.on B3
  generalize w2.alloc (.cells #[.int .i64 0, .int .i64 0, .int .i64 0] 58) = w3 at *
  have B4 := (Below.refl w3.heap.size w3).alloc (Nat.le_refl _) (.cells #[.int .i64 0, .int .i64 0, .int .i64 0] 58)
  exact ⟨hg3.on B4, (B4.block _ (by omega)).trans a3, by rw [← z3]; exact Array.getElem?_push_size⟩
theorem fun6_cells' {w W : World} {b o : Nat} {l : List Fun4} (h : Lies 6 FunR w (some ⟨b, o, none⟩) l) (hb : Below w.heap.size w W) {k : Nat} {f : Fun4} (hf : l[k]? = some f) :
    W.cell? ⟨b, o + k * 6, none⟩ = some (.string f.name) ∧ W.cell? ⟨b, o + k * 6 + 1, none⟩ = some (.int .i64 f.len) ∧ W.cell? ⟨b, o + k * 6 + 2, none⟩ = some (.int .i64 f.a0) ∧ W.cell? ⟨b, o + k * 6 + 3, none⟩ = some (.int .i64 f.a1) ∧ W.cell? ⟨b, o + k * 6 + 4, none⟩ = some (.int .i64 f.a2) ∧ W.cell? ⟨b, o + k * 6 + 5, none⟩ = some (.int .i64 f.res) := by
  obtain ⟨b', o', e, _, h'⟩ := fun6_cells h hb hf
  simp at e
  obtain ⟨rfl, rfl⟩ := e
  exact h'
theorem pad_succ {l : List Int} {k : Nat} {y : Int} (hk : l[k]? = some y) (h3 : l.length ≤ 3) : (#[Value.int .i64 (padA (l.take k)).1, .int .i64 (padA (l.take k)).2.1, .int .i64 (padA (l.take k)).2.2].setIfInBounds k (.int .i64 y)) = #[Value.int .i64 (padA (l.take (k + 1))).1, .int .i64 (padA (l.take (k + 1))).2.1, .int .i64 (padA (l.take (k + 1))).2.2] := by
  match l, k, hk, h3 with
  | [a], 0, hk, _ => simp at hk; subst hk; rfl
  | [a, b], 0, hk, _ => simp at hk; subst hk; rfl
  | [a, b, c], 0, hk, _ => simp at hk; subst hk; rfl
  | [a, b], 1, hk, _ => simp at hk; subst hk; rfl
  | [a, b, c], 1, hk, _ => simp at hk; subst hk; rfl
  | [a, b, c], 2, hk, _ => simp at hk; subst hk; rfl
  | [a], k + 1, hk, _ => simp at hk
  | [a, b], k + 2, hk, _ => simp at hk
  | [a, b, c], k + 3, hk, _ => simp at hk
  | [], k, hk, _ => simp at hk
theorem RAsk.put {W : World} {b : Nat} {u0 u1 u2 v0 v1 : Value} {l : List Int} {k : Nat} {y : Int} (h : RAsk W b u0 u1 u2 v0 v1 (padA (l.take k))) (hk : l[k]? = some y) (h3 : l.length ≤ 3) : RAsk (W.setCell ⟨b + 3, k, none⟩ (.int .i64 y)) b u0 u1 u2 v0 v1 (padA (l.take (k + 1))) := by
  have e := fun c (hc : c ≠ b + 3) => Below.heap_setCell W ⟨b + 3, k, none⟩ (.int .i64 y) c hc
  have hs : (W.setCell ⟨b + 3, k, none⟩ (.int .i64 y)).heap.size = W.heap.size := by simp [World.setCell]
  have ec := fun c o (hc : c ≠ b + 3) => World.cell?_of_block (w := W) (w' := W.setCell ⟨b + 3, k, none⟩ (.int .i64 y)) (a := ⟨c, o, none⟩) (e c hc)
  refine ⟨⟨(ec _ _ (by omega)).trans h.gw.g0, (ec _ _ (by omega)).trans h.gw.g1, (ec _ _ (by omega)).trans h.gw.g2, (ec _ _ (by omega)).trans h.gw.v0, (ec _ _ (by omega)).trans h.gw.v1, by rw [hs]; exact h.gw.lg, by rw [hs]; exact h.gw.lw⟩, (e _ (by omega)).trans h.z, ?_⟩
  have := set_at (o := k) (u := .int .i64 y) h.a
  rw [pad_succ hk h3] at this
  exact this
set_option maxRecDepth 100000 in
set_option maxHeartbeats 6400000 in
theorem rasked_any {w : World} {A1 A2 A3 B1 B2 A : Option Addr} {c1 c2 c3 d1 d2 c : Nat} {g : Sig} {x : Wrld} (hg : SigAt w A1 c1 A2 c2 A3 c3 g) (hx : WrldAt w B1 d1 B2 d2 x) (hl1 : g.sorts.length ≤ 1000000) (hl2 : g.funs.length ≤ 1000000) (hl3 : g.macros.length ≤ 1000000) (hl4 : (x.sizes.length : Int) ≤ 1000000)
    (f : Int) (_ : I64 f) {l : List Int} (hl : Cells w A (l.map (Value.int .i64))) (hli : ∀ y ∈ l, I64 y) (hll : (l.length : Int) ≤ 140737488351232) :
    Calls Tryz.prog 25 #[.agg #[.slice A1 g.sorts.length c1, .slice A2 g.funs.length c2, .slice A3 g.macros.length c3], .agg #[.slice B1 x.sizes.length d1, .slice B2 x.funs.length d2], .int .i64 f, .slice A l.length c] w fun e w' => AskPost (askE g x f l) l e ∧ Below w.heap.size w w' := by
  have HMy := Lib.hid (fun W (hW : Below w.heap.size w W) => rmayw_any (hg.on hW) (hx.on hW) hl1 hl2 hl3 hl4)
  have HFt := Lib.hid (fun W (hW : Below w.heap.size w W) F a ha => rfits_any (A1 := A1) (A2 := A2) (A3 := A3) (B2 := B2) (n1 := g.sorts.length) (c1 := c1) (n2 := g.funs.length) (c2 := c2) (n3 := g.macros.length) (c3 := c3) (d1 := d1) (m := x.funs.length) (d2 := d2) (hx.sizes.on (IntR.lasts _) hW) hl4 (by omega) F a ha)
  have HFf := Lib.hid hg.funs
  have HIl := Lib.hid (fun W (hW : Below w.heap.size w W) k (hk : k < l.length) => cells_get (hl.on hW) hk)
  have HPd := Lib.hid (pad_i3 hli)
  have HE0 := Lib.hid (ask_no_may (g := g) (x := x) (f := f) (l := l))
  have HEo := Lib.hid (ask_out (g := g) (x := x) (f := f) (l := l))
  have HEa := Lib.hid (fun k F hm hF => ask_at (g := g) (x := x) (k := k) (l := l) (F := F) hm hF)
  have HB3 := Lib.hid (fun (hm : mayW g x = true) k F (hF : g.funs[k]? = some F) => (funB_parts (fun_len (may_parts hm).1 hF)).2.1)
  have HP := Lib.hid (fun E e a (h0 : e = Ending.returned (.tuple #[keyA a, .int .i64 E])) h1 h2 => (show AskPost E l e from ⟨a, h0, h1, h2⟩))
  have HZ3 := Lib.hid (show I3 (0, 0, 0) from ⟨⟨by simp, by simp⟩, ⟨by simp, by simp⟩, ⟨by simp, by simp⟩⟩)
  have HB4 := Lib.hid (below4 w (.cells #[.slice A1 g.sorts.length c1, .slice A2 g.funs.length c2, .slice A3 g.macros.length c3] 26) (.cells #[.slice B1 x.sizes.length d1, .slice B2 x.funs.length d2] 30) (.cells #[.int .i64 0, .int .i64 0, .int .i64 0] 58) (.cells #[.int .i64 0, .int .i64 0, .int .i64 0] 58))
  have HR4 := Lib.hid (rask_made w (.slice A1 g.sorts.length c1) (.slice A2 g.funs.length c2) (.slice A3 g.macros.length c3) (.slice B1 x.sizes.length d1) (.slice B2 x.funs.length d2) 26 30)
  have HPs := Lib.hid (fun W k y u0 u1 u2 v0 v1 h (hk : l[k]? = some y) h3 => RAsk.put (W := W) (b := w.heap.size) (u0 := u0) (u1 := u1) (u2 := u2) (v0 := v0) (v1 := v1) (l := l) (k := k) (y := y) h hk h3)
  clear hg hx hl hli
  generalize hmb : mayW g x = mb at *
  clear hmb
  generalize hn1 : g.sorts.length = n1 at *
  generalize hn2 : g.funs.length = n2 at *
  generalize hn3 : g.macros.length = n3 at *
  generalize hm1 : x.sizes.length = m1 at *
  generalize hm2 : x.funs.length = m2 at *
  go_enter Tryz.func25, Tryz.ntmps25
  go_wp2_with fail
  generalize (((w.alloc (.cells #[.slice A1 n1 c1, .slice A2 n2 c2, .slice A3 n3 c3] 26)).alloc (.cells #[.slice B1 m1 d1, .slice B2 m2 d2] 30)).alloc (.cells #[.int .i64 0, .int .i64 0, .int .i64 0] 58)).alloc (.cells #[.int .i64 0, .int .i64 0, .int .i64 0] 58) = w4 at *
  refine (HMy.out w4 HB4.out).mono ?_
  rintro e w5 ⟨rfl, hb5⟩
  have HB5 := Lib.hid (HB4.out.trans (hb5.mono HB4.out.size))
  have HR5 := Lib.hid (HR4.out.on hb5)
  clear hb5 HR4 HB4 HMy
  obtain ⟨q0, q1, q2, p0, p1, _, _⟩ := HR5.out.gw
  obtain ⟨z0, z1, z2, zf0, zf1, zf2⟩ := arr3 HR5.out.z
  obtain ⟨y0, y1, y2, yf0, yf1, yf2⟩ := arr3 HR5.out.a
  cases mb with
  | false =>
    have HR := Lib.hid (HE0.out rfl)
    go_wp2_with fail
    change bodyPost _ _ _ _ _ (set3 w5 (w.heap.size + 2) (.int .i64 0) (.int .i64 0) (.int .i64 0))
    exact rask_ret (a := (0, 0, 0)) (arr3_set HR5.out.z _ _ _) rfl rfl rfl ⟨by rw [HR.out]; exact HP.out 2 _ (0, 0, 0) rfl HZ3.out (fun h => by cases h), set3_below HB5.out (by omega) _ _ _⟩
  | true =>
    by_cases hf0 : f < 0
    · have hf0' := decide_eq_true hf0
      have HR := Lib.hid (HEo.out (.inl hf0))
      go_wp2_with fail
      change bodyPost _ _ _ _ _ (set3 w5 (w.heap.size + 2) (.int .i64 0) (.int .i64 0) (.int .i64 0))
      exact rask_ret (a := (0, 0, 0)) (arr3_set HR5.out.z _ _ _) rfl rfl rfl ⟨by rw [HR.out]; exact HP.out 2 _ (0, 0, 0) rfl HZ3.out (fun h => by cases h), set3_below HB5.out (by omega) _ _ _⟩
    · have hf0' := decide_eq_false hf0
      by_cases hf1 : (n2 : Int) ≤ f
      · have hf1' := decide_eq_true hf1
        have HR := Lib.hid (HEo.out (.inr hf1))
        go_wp2_with fail
        change bodyPost _ _ _ _ _ (set3 w5 (w.heap.size + 2) (.int .i64 0) (.int .i64 0) (.int .i64 0))
        exact rask_ret (a := (0, 0, 0)) (arr3_set HR5.out.z _ _ _) rfl rfl rfl ⟨by rw [HR.out]; exact HP.out 2 _ (0, 0, 0) rfl HZ3.out (fun h => by cases h), set3_below HB5.out (by omega) _ _ _⟩
      · have hf1' := decide_eq_false hf1
        obtain ⟨k, rfl⟩ : ∃ k : Nat, f = (k : Int) := ⟨f.toNat, by omega⟩
        have hfn : decide (n2 ≤ k) = false := decide_eq_false (by omega)
        have hkn : (k : Int) < (n2 : Int) := by omega
        obtain ⟨F, hF⟩ : ∃ F, g.funs[k]? = some F := ⟨_, List.getElem?_eq_getElem (by omega)⟩
        obtain ⟨fb, fo, rfl, hfl⟩ := lies_addr HFf.out hF
        have HFc := Lib.hid (fun W hW => fun6_cells' (W := W) HFf.out hW hF)
        obtain ⟨f0, f1, f2, f3, f4, f5⟩ := HFc.out w5 HB5.out
        have HE := Lib.hid (HEa.out k F rfl hF)
        have HL3 := Lib.hid (HB3.out rfl k F hF)
        clear hF
        by_cases hln : (l.length : Int) = F.len
        · have hln' : ((l.length : Int) == F.len) = true := beq_iff_eq.2 hln
          have hln'' : ((l.length : Int) != F.len) = false := by rw [bne, hln']; rfl
          have hl3 : l.length ≤ 3 := by have := HL3.out; omega
          replace HE := Lib.hid (HE.out.trans (if_neg (fun h => h hln)))
          clear hln
          go_wp2_with fail
          clear q0 q1 q2 p0 p1 z0 z1 z2 zf0 zf1 zf2 y0 y1 y2 yf0 yf1 yf2 f0 f1 f2 f3 f4 f5
          go_loopw [11] (fun i wr => ∃ j : Nat, j ≤ l.length ∧ i = .int .i64 j ∧ RAsk wr w.heap.size (.slice A1 n1 c1) (.slice (some ⟨fb, fo, none⟩) n2 c2) (.slice A3 n3 c3) (.slice B1 m1 d1) (.slice B2 m2 d2) (padA (l.take j)) ∧ Below w.heap.size w wr) (fun i _ => l.length - (intOf i).toNat)
          case atStart => exact ⟨0, by omega, rfl, HR5.out, HB5.out⟩
          case round =>
            obtain ⟨j, hj, rfl, hra, hb⟩ := hrel
            have HRj := Lib.hid hra
            have HBj := Lib.hid hb
            clear hra hb
            by_cases hjl : j < l.length
            · have hjl2 : (j : Int) < (l.length : Int) := by omega
              have hj3 : (j : Int) < 3 := by omega
              obtain ⟨b, o, rfl, s0⟩ := HIl.out wr HBj.out j hjl
              have hfz := frozen_of_cells HRj.out.a j
              have hcz : wr.cell? ⟨w.heap.size + 3, j, none⟩ = some (.int .i64 (at3 (padA (l.take j)) j)) := by
                obtain ⟨e0, e1, e2, _⟩ := arr3 HRj.out.a
                have : j = 0 ∨ j = 1 ∨ j = 2 := by omega
                rcases this with rfl | rfl | rfl <;> assumption
              have HN := Lib.hid (HPs.out wr j (l.getD j 0) _ _ _ _ _ HRj.out (by rw [List.getElem?_eq_getElem hjl, List.getD_eq_getElem?_getD, List.getElem?_eq_getElem hjl]; rfl) hl3)
              have HBn := Lib.hid (HBj.out.setCell (p := ⟨w.heap.size + 3, j, none⟩) (by simp) (.int .i64 (l.getD j 0)))
              generalize l.getD j 0 = y at *
              go_wp2_with fail
              go_roundw
              case rel => exact ⟨j + 1, by omega, by go_num, HN.out, HBn.out⟩
              case measure => simp [intOf]; omega
            · obtain rfl : j = l.length := by omega
              have HRl := Lib.hid (show RAsk wr w.heap.size (.slice A1 n1 c1) (.slice (some ⟨fb, fo, none⟩) n2 c2) (.slice A3 n3 c3) (.slice B1 m1 d1) (.slice B2 m2 d2) (padA l) from by have h := HRj.out; rwa [List.take_length] at h)
              clear HRj HPs HR5 HB5
              generalize padA l = pa at *
              have HSt := Lib.hid (fun W (hW : Below wr.heap.size wr W) => (show (fun W => (W.cell? ⟨w.heap.size, 0, none⟩ = some (.slice A1 n1 c1) ∧ W.cell? ⟨w.heap.size, 1, none⟩ = some (.slice (some ⟨fb, fo, none⟩) n2 c2) ∧ W.cell? ⟨w.heap.size, 2, none⟩ = some (.slice A3 n3 c3)) ∧ (W.cell? ⟨w.heap.size + 1, 0, none⟩ = some (.slice B1 m1 d1) ∧ W.cell? ⟨w.heap.size + 1, 1, none⟩ = some (.slice B2 m2 d2)) ∧ (W.cell? ⟨fb, fo + k * 6, none⟩ = some (.string F.name) ∧ W.cell? ⟨fb, fo + k * 6 + 1, none⟩ = some (.int .i64 F.len) ∧ W.cell? ⟨fb, fo + k * 6 + 2, none⟩ = some (.int .i64 F.a0) ∧ W.cell? ⟨fb, fo + k * 6 + 3, none⟩ = some (.int .i64 F.a1) ∧ W.cell? ⟨fb, fo + k * 6 + 4, none⟩ = some (.int .i64 F.a2) ∧ W.cell? ⟨fb, fo + k * 6 + 5, none⟩ = some (.int .i64 F.res)) ∧ (W.cell? ⟨w.heap.size + 3, 0, none⟩ = some (.int .i64 pa.1) ∧ W.cell? ⟨w.heap.size + 3, 1, none⟩ = some (.int .i64 pa.2.1) ∧ W.cell? ⟨w.heap.size + 3, 2, none⟩ = some (.int .i64 pa.2.2))) W from by
                have h := HRl.out.on hW
                obtain ⟨e0, e1, e2, _⟩ := arr3 h.a
                exact ⟨⟨h.gw.g0, h.gw.g1, h.gw.g2⟩, ⟨h.gw.v0, h.gw.v1⟩, HFc.out W (HBj.out.trans (hW.mono HBj.out.size)), e0, e1, e2⟩))
              have HFtc := Lib.hid (fun W (hW : Below wr.heap.size wr W) => HFt.out W (HBj.out.trans (hW.mono HBj.out.size)) F pa HPd.out)
              generalize hfq : fitsB n1 x.sizes F pa = fq at *
              clear hfq
              go_wp2_with fail
              refine wp_region_held_drew (S := fun W => (W.cell? ⟨w.heap.size, 0, none⟩ = some (.slice A1 n1 c1) ∧ W.cell? ⟨w.heap.size, 1, none⟩ = some (.slice (some ⟨fb, fo, none⟩) n2 c2) ∧ W.cell? ⟨w.heap.size, 2, none⟩ = some (.slice A3 n3 c3)) ∧ (W.cell? ⟨w.heap.size + 1, 0, none⟩ = some (.slice B1 m1 d1) ∧ W.cell? ⟨w.heap.size + 1, 1, none⟩ = some (.slice B2 m2 d2)) ∧ (W.cell? ⟨fb, fo + k * 6, none⟩ = some (.string F.name) ∧ W.cell? ⟨fb, fo + k * 6 + 1, none⟩ = some (.int .i64 F.len) ∧ W.cell? ⟨fb, fo + k * 6 + 2, none⟩ = some (.int .i64 F.a0) ∧ W.cell? ⟨fb, fo + k * 6 + 3, none⟩ = some (.int .i64 F.a1) ∧ W.cell? ⟨fb, fo + k * 6 + 4, none⟩ = some (.int .i64 F.a2) ∧ W.cell? ⟨fb, fo + k * 6 + 5, none⟩ = some (.int .i64 F.res)) ∧ (W.cell? ⟨w.heap.size + 3, 0, none⟩ = some (.int .i64 pa.1) ∧ W.cell? ⟨w.heap.size + 3, 1, none⟩ = some (.int .i64 pa.2.1) ∧ W.cell? ⟨w.heap.size + 3, 2, none⟩ = some (.int .i64 pa.2.2))) (by kernel_rfl) (HSt.out _ (Below.refl _ _).drew) (fun hHeld => ?_)
              refine wpAnyH_take (i := 0) (oi := Oper.mk _ _ _ _ _ _) (v := ?_) rfl (by kernel_rfl) (by kernel_rfl) (by kernel_rfl) (fun _ _ _ h => h) (Or.inl ⟨by rfl, ?_⟩) (by assumption) ?_
              rotate_left
              · (intro w hSw; (try dsimp only at hSw); go_simp; try with_reducible rfl)
              try simp only [Act.put, List.setIfInBounds_toArray, List.set_cons_zero, List.set_cons_succ]
              refine wpAnyH_take (i := 1) (oi := Oper.mk _ _ _ _ _ _) (v := ?_) rfl (by kernel_rfl) (by kernel_rfl) (by kernel_rfl) (fun _ _ _ h => h) (Or.inl ⟨by rfl, ?_⟩) (by assumption) ?_
              rotate_left
              · (intro w hSw; (try dsimp only at hSw); go_simp; try with_reducible rfl)
              try simp only [Act.put, List.setIfInBounds_toArray, List.set_cons_zero, List.set_cons_succ]
              refine wpAnyH_take (i := 2) (oi := Oper.mk _ _ _ _ _ _) (v := ?_) rfl (by kernel_rfl) (by kernel_rfl) (by kernel_rfl) (fun _ _ _ h => h) (Or.inl ⟨by rfl, ?_⟩) (by assumption) ?_
              rotate_left
              · (intro w hSw; (try dsimp only at hSw); go_simp; try with_reducible rfl)
              try simp only [Act.put, List.setIfInBounds_toArray, List.set_cons_zero, List.set_cons_succ]
              refine wpAnyH_take (i := 3) (oi := Oper.mk _ _ _ _ _ _) (v := ?_) rfl (by kernel_rfl) (by kernel_rfl) (by kernel_rfl) (fun _ _ _ h => h) (Or.inl ⟨by rfl, ?_⟩) (by assumption) ?_
              rotate_left
              · (intro w hSw; (try dsimp only at hSw); go_simp; try with_reducible rfl)
              try simp only [Act.put, List.setIfInBounds_toArray, List.set_cons_zero, List.set_cons_succ]
              refine wpAnyH_take (i := 4) (oi := Oper.mk _ _ _ _ _ _) (v := ?_) rfl (by kernel_rfl) (by kernel_rfl) (by kernel_rfl) (fun _ _ _ h => h) (Or.inl ⟨by rfl, ?_⟩) (by assumption) ?_
              rotate_left
              · (intro w hSw; (try dsimp only at hSw); go_simp; try with_reducible rfl)
              try simp only [Act.put, List.setIfInBounds_toArray, List.set_cons_zero, List.set_cons_succ]
              refine wpAnyH_take (i := 5) (oi := Oper.mk _ _ _ _ _ _) (v := ?_) rfl (by kernel_rfl) (by kernel_rfl) (by kernel_rfl) (fun _ _ _ h => h) (Or.inl ⟨by rfl, ?_⟩) (by assumption) ?_
              rotate_left
              · (intro w hSw; (try dsimp only at hSw); go_simp; try with_reducible rfl)
              try simp only [Act.put, List.setIfInBounds_toArray, List.set_cons_zero, List.set_cons_succ]
              refine wpAnyH_take (i := 6) (oi := Oper.mk _ _ _ _ _ _) (v := ?_) rfl (by kernel_rfl) (by kernel_rfl) (by kernel_rfl) (fun _ _ _ h => h) (Or.inl ⟨by rfl, ?_⟩) (by assumption) ?_
              rotate_left
              · (intro w hSw; (try dsimp only at hSw); go_simp; try with_reducible rfl)
              try simp only [Act.put, List.setIfInBounds_toArray, List.set_cons_zero, List.set_cons_succ]
              refine wpAnyH_take (i := 7) (oi := Oper.mk _ _ _ _ _ _) (v := ?_) rfl (by kernel_rfl) (by kernel_rfl) (by kernel_rfl) (fun _ _ _ h => h) (Or.inl ⟨by rfl, ?_⟩) (by assumption) ?_
              rotate_left
              · (intro w hSw; (try dsimp only at hSw); go_simp; try with_reducible rfl)
              try simp only [Act.put, List.setIfInBounds_toArray, List.set_cons_zero, List.set_cons_succ]
              refine wpAnyH_ready (rs := [8]) (by kernel_rfl) (by simp) ?_
              refine AllReadyH.cons (o := Oper.mk _ _ _ _ _ _) rfl (fun K hK => ?_) AllReadyH.nil
              go_simp
              go_wp2_with (go_at_call 40; refine (HFtc.out _ ?_).mono ?_; exact (Below.refl _ _).drew; rintro e w6 ⟨rfl, hb6⟩; have HD6 := Lib.hid ((Below.refl wr.heap.size wr).drew.trans hb6))
              refine hK.out _ _ (HSt.out _ HD6.out) (fun hHeld => ?_)
              clear hK K
              try simp only [Act.put, List.setIfInBounds_toArray, List.set_cons_zero, List.set_cons_succ]
              clear hb6
              refine wpAnyH_take (i := 9) (oi := Oper.mk _ _ _ _ _ _) (v := ?_) rfl (by kernel_rfl) (by kernel_rfl) (by kernel_rfl) (fun _ _ _ h => h) (Or.inl ⟨by rfl, ?_⟩) (by assumption) ?_
              rotate_left
              · (intro w hSw; (try dsimp only at hSw); go_simp; try with_reducible rfl)
              try simp only [Act.put, List.setIfInBounds_toArray, List.set_cons_zero, List.set_cons_succ]
              refine wpAnyH_done (by kernel_rfl) ?_ _
              have HB6 := Lib.hid (HBj.out.trans (HD6.out.mono HBj.out.size))
              have HR6 := Lib.hid (HRl.out.on HD6.out)
              clear hHeld HSt HFtc HD6 HRl HBj
              obtain ⟨z0, z1, z2, zf0, zf1, zf2⟩ := arr3 HR6.out.z
              obtain ⟨y0, y1, y2, yf0, yf1, yf2⟩ := arr3 HR6.out.a
              cases fq with
              | true =>
                have HR := Lib.hid (show askE g x (k : Int) l = 0 from HE.out)
                go_wp2_with fail
                change bodyPost _ _ _ _ _ (set3 w6 (w.heap.size + 2) (.int .i64 pa.1) (.int .i64 pa.2.1) (.int .i64 pa.2.2))
                exact rask_ret (a := pa) (arr3_set HR6.out.z _ _ _) rfl rfl rfl ⟨by rw [HR.out]; exact HP.out 0 _ pa rfl HPd.out (fun _ => rfl), set3_below HB6.out (by omega) _ _ _⟩
              | false =>
                have HR := Lib.hid (show askE g x (k : Int) l = 33 from HE.out)
                go_wp2_with fail
                change bodyPost _ _ _ _ _ (set3 w6 (w.heap.size + 2) (.int .i64 pa.1) (.int .i64 pa.2.1) (.int .i64 pa.2.2))
                exact rask_ret (a := pa) (arr3_set HR6.out.z _ _ _) rfl rfl rfl ⟨by rw [HR.out]; exact HP.out 33 _ pa rfl HPd.out (fun h => by cases h), set3_below HB6.out (by omega) _ _ _⟩
        · have hln' : ((l.length : Int) == F.len) = false := beq_eq_false_iff_ne.2 hln
          have hln'' : ((l.length : Int) != F.len) = true := by rw [bne, hln']; rfl
          have HR := Lib.hid (HE.out.trans (if_pos hln))
          clear hln
          go_wp2_with fail
          change bodyPost _ _ _ _ _ (set3 w5 (w.heap.size + 2) (.int .i64 0) (.int .i64 0) (.int .i64 0))
          exact rask_ret (a := (0, 0, 0)) (arr3_set HR5.out.z _ _ _) rfl rfl rfl ⟨by rw [HR.out]; exact HP.out 2 _ (0, 0, 0) rfl HZ3.out (fun h => by cases h), set3_below HB5.out (by omega) _ _ _⟩
end Go.Proofs.YtfcmpfaonpnbaaaGreatDoor.Vl
/- The document's value: what a function is for some arguments. -/
namespace Go.Proofs.YtfcmpfaonpnbaaaGreatDoor.Vl
open Go.RowKit Go.Proofs.YtfcmpfaonpnbaaaGreatDoor.Dt Go.Proofs.YtfcmpfaonpnbaaaGreatDoor.Sg

theorem rowAt_none {l : List Row} {a : Int × Int × Int} (h : ∀ i q, i < l.length → l[i]? = some q → Row.args q ≠ a) : rowAt l a = none := by
  unfold rowAt
  rw [List.find?_eq_none]
  intro r hr
  obtain ⟨i, hi, e⟩ := List.getElem_of_mem hr
  have := h i r hi (by rw [← e]; exact List.getElem?_eq_getElem hi)
  simpa using this
theorem rowAt_some {l : List Row} {a : Int × Int × Int} {j : Nat} {r : Row} (hj : l[j]? = some r) (ha : Row.args r = a) (hb : ∀ i q, i < j → l[i]? = some q → Row.args q ≠ a) : rowAt l a = some r := by
  unfold rowAt
  rw [List.find?_eq_some_iff_getElem]
  refine ⟨by simpa using ha, j, (List.getElem?_eq_some_iff.1 hj).1, (List.getElem?_eq_some_iff.1 hj).2, fun i hi => ?_⟩
  have := hb i _ hi (List.getElem?_eq_getElem (by have := (List.getElem?_eq_some_iff.1 hj).1; omega))
  simpa using this
/-- the rows before are of other arguments -/
def elseTo (l : List Row) (a : Int × Int × Int) (j : Nat) : Prop := ∀ i q, i < j → l[i]? = some q → Row.args q ≠ a
theorem else_zero (l : List Row) (a : Int × Int × Int) : elseTo l a 0 := fun i q hi => by omega
theorem else_succ {l : List Row} {a : Int × Int × Int} {q : Row} {j : Nat} (h : elseTo l a j) (hq : l[j]? = some q) (hn : Row.args q ≠ a) : elseTo l a (j + 1) := fun i p hi hp => by
  by_cases e : i = j
  · subst e; rw [hq] at hp; cases hp; exact hn
  · exact h i p (by omega) hp
set_option maxRecDepth 100000 in
set_option maxHeartbeats 6400000 in
theorem rapply_any {w : World} {A1 A2 A3 B1 B2 A : Option Addr} {c1 c2 c3 d1 d2 c : Nat} {g : Sig} {x : Wrld} (hg : SigAt w A1 c1 A2 c2 A3 c3 g) (hx : WrldAt w B1 d1 B2 d2 x) (hl1 : g.sorts.length ≤ 1000000) (hl2 : g.funs.length ≤ 1000000) (hl3 : g.macros.length ≤ 1000000) (hl4 : (x.sizes.length : Int) ≤ 1000000)
    (f : Int) (hf : I64 f) {l : List Int} (hl : Cells w A (l.map (Value.int .i64))) (hli : ∀ y ∈ l, I64 y) (hll : (l.length : Int) ≤ 140737488351232) :
    Calls Tryz.prog 8 #[.agg #[.slice A1 g.sorts.length c1, .slice A2 g.funs.length c2, .slice A3 g.macros.length c3], .agg #[.slice B1 x.sizes.length d1, .slice B2 x.funs.length d2], .int .i64 f, .slice A l.length c] w fun e w' => e = .returned (.tuple #[.int .i64 (applyV g x f l), .int .i64 (askE g x f l)]) ∧ Below w.heap.size w w' := by
  have HB2 := Lib.hid (((Below.refl w.heap.size w).alloc (Nat.le_refl _) (.cells #[.slice A1 g.sorts.length c1, .slice A2 g.funs.length c2, .slice A3 g.macros.length c3] 26)).alloc (by simp) (.cells #[.slice B1 x.sizes.length d1, .slice B2 x.funs.length d2] 30))
  have HG2 := Lib.hid (gw_made w (.slice A1 g.sorts.length c1) (.slice A2 g.funs.length c2) (.slice A3 g.macros.length c3) (.slice B1 x.sizes.length d1) (.slice B2 x.funs.length d2) 26 30)
  have HAs := Lib.hid (fun W (hW : Below w.heap.size w W) => rasked_any (w := W) (c := c) (hg.on hW) (hx.on hW) hl1 hl2 hl3 hl4 f hf (hl.on hW) hli hll)
  have HBd := Lib.hid (apply_bad (g := g) (x := x) (f := f) (l := l))
  have HFn := Lib.hid (ask_fun (g := g) (x := x) (f := f) (l := l))
  have HAt := Lib.hid (fun k v h hv => apply_at (g := g) (x := x) (k := k) (l := l) (v := v) h hv)
  have HFv := Lib.hid hx.funs
  have HPr := Lib.hid (show ∀ (a b c d : Int), a = c → b = d → Ending.returned (.tuple #[.int .i64 a, .int .i64 b]) = .returned (.tuple #[.int .i64 c, .int .i64 d]) from fun a b c d h1 h2 => by rw [h1, h2])
  clear hg hx hl hli
  generalize hn1 : g.sorts.length = n1 at *
  generalize hn2 : g.funs.length = n2 at *
  generalize hn3 : g.macros.length = n3 at *
  generalize hm1 : x.sizes.length = m1 at *
  generalize hm2 : x.funs.length = m2 at *
  go_enter Tryz.func8, Tryz.ntmps8
  go_wp2_with fail
  generalize (w.alloc (.cells #[.slice A1 n1 c1, .slice A2 n2 c2, .slice A3 n3 c3] 26)).alloc (.cells #[.slice B1 m1 d1, .slice B2 m2 d2] 30) = w2 at *
  obtain ⟨q0, q1, q2, p0, p1, _, _⟩ := HG2.out
  go_wp2_with fail
  refine (HAs.out w2 HB2.out).mono ?_
  rintro e w3 ⟨⟨a, rfl, hai, hae⟩, hb3⟩
  have HB3 := Lib.hid (HB2.out.trans (hb3.mono HB2.out.size))
  have HG3 := Lib.hid (HG2.out.on hb3)
  have HAi := Lib.hid hai
  have HAe := Lib.hid hae
  clear hb3 hai hae HG2 HB2 HAs q0 q1 q2 p0 p1
  unfold keyA
  generalize hE : askE g x f l = E at *
  have HB4 := Lib.hid (HB3.out.alloc HB3.out.size (.cells #[.int .i64 a.1, .int .i64 a.2.1, .int .i64 a.2.2] 58))
  have HG4 := Lib.hid (HG3.out.on ((Below.refl w3.heap.size w3).alloc (Nat.le_refl _) (.cells #[.int .i64 a.1, .int .i64 a.2.1, .int .i64 a.2.2] 58)))
  have HA4 := Lib.hid (show (w3.alloc (.cells #[.int .i64 a.1, .int .i64 a.2.1, .int .i64 a.2.2] 58)).heap[w3.heap.size]? = some (.cells #[.int .i64 a.1, .int .i64 a.2.1, .int .i64 a.2.2] 58 (0, 0)) from Array.getElem?_push_size)
  by_cases h0 : E = 0
  · obtain ⟨k, v, rfl, hv, hk, ho, h400⟩ := HFn.out h0
    have HV := Lib.hid (HAt.out k v (hE.trans h0) hv)
    obtain ⟨vb, vo, rfl, hvl⟩ := lies_addr HFv.out hv
    have HVc := Lib.hid (fun W hW => funval_cells' (W := W) HFv.out hW hv)
    have HPa := Lib.hid (HAe.out h0)
    have HE0 := Lib.hid (hE.trans h0)
    subst h0
    have hkm : k < m2 := by rw [← hm2]; exact (List.getElem?_eq_some_iff.1 hv).1
    have hkm2 : (k : Int) < (m2 : Int) := by omega
    clear hE hv ho HAe HFn HAt
    go_wp2_with fail
    generalize hab : w3.heap.size = ab at *
    clear hab
    generalize w3.alloc (.cells #[.int .i64 a.1, .int .i64 a.2.1, .int .i64 a.2.2] 58) = w4 at *
    go_loopw [12] (fun i wr => ∃ j : Nat, j ≤ v.rows.length ∧ i = .int .i64 j ∧ elseTo v.rows a j ∧ Below w4.heap.size w4 wr) (fun i _ => v.rows.length - (intOf i).toNat)
    case atStart => exact ⟨0, by omega, rfl, else_zero _ _, Below.refl _ _⟩
    case round =>
      obtain ⟨j, hj, rfl, hel, hb⟩ := hrel
      have HEl := Lib.hid hel
      have HBj := Lib.hid (HB4.out.trans (hb.mono HB4.out.size))
      have HB := Lib.hid hb
      have p1 := (HG4.out.on hb).v1
      have HAj := Lib.hid ((hb.block _ (lt_of_block HA4.out)).trans HA4.out)
      clear hel hb
      obtain ⟨hvl2, Ar, cr, e0, e1, hrl, hels, hrb⟩ := HVc.out wr HBj.out
      have HRl := Lib.hid hrl
      clear hrl
      have HR0 := Lib.hid (rowAt_none (l := v.rows) (a := a))
      by_cases hjl : j < v.rows.length
      · have hjl2 : (j : Int) < (v.rows.length : Int) := by omega
        obtain ⟨r, hr⟩ : ∃ r, v.rows[j]? = some r := ⟨_, List.getElem?_eq_getElem hjl⟩
        obtain ⟨rb, ro, rfl, hrbl⟩ := lies_addr HRl.out hr
        obtain ⟨r0, r1, r2, r3, _, _⟩ := row_cells' HRl.out (Below.refl _ _) hr
        obtain ⟨a0, a1, a2, _⟩ := arr3 HAj.out
        have HQ1 := Lib.hid (fun h => else_succ HEl.out hr h)
        have HQ2 := Lib.hid (fun h => rowAt_some hr h HEl.out)
        have HEq := Lib.hid (show ∀ W, (Op.equalIn 10000 58 (.agg #[.int .i64 r.a0, .int .i64 r.a1, .int .i64 r.a2]) (.agg #[.int .i64 a.1, .int .i64 a.2.1, .int .i64 a.2.2])).run Tryz.prog W = .ok (eqB (Row.args r) a) W from fun W => a3_eqIn 9998 (Row.args r) a W)
        clear hr
        by_cases he : Row.args r = a
        · have heq := HEq.out
          rw [eqB_true.2 he] at heq
          have HR := Lib.hid (show applyV g x (k : Int) l = r.val by rw [HV.out, ← HPa.out]; rw [HQ2.out he])
          clear he HEq
          go_wp2_with fail
          refine wp_region_held_drew (S := fun W => W.cell? ⟨w.heap.size + 1, 1, none⟩ = some (.slice (some ⟨vb, vo, none⟩) m2 d2) ∧ W.cell? ⟨vb, vo + k * 2, none⟩ = some (.slice (some ⟨rb, ro, none⟩) v.rows.length cr) ∧ (W.cell? ⟨rb, ro + j * 4, none⟩ = some (.int .i64 r.a0) ∧ W.cell? ⟨rb, ro + j * 4 + 1, none⟩ = some (.int .i64 r.a1) ∧ W.cell? ⟨rb, ro + j * 4 + 2, none⟩ = some (.int .i64 r.a2)) ∧ (W.cell? ⟨ab, 0, none⟩ = some (.int .i64 a.1) ∧ W.cell? ⟨ab, 1, none⟩ = some (.int .i64 a.2.1) ∧ W.cell? ⟨ab, 2, none⟩ = some (.int .i64 a.2.2))) (by kernel_rfl) (⟨p1, e0, ⟨r0, r1, r2⟩, a0, a1, a2⟩) (fun hHeld => ?_)
          refine wpAnyH_take (i := 0) (oi := Oper.mk _ _ _ _ _ _) (v := ?_) rfl (by kernel_rfl) (by kernel_rfl) (by kernel_rfl) (fun _ _ _ h => h) (Or.inl ⟨by rfl, ?_⟩) (by assumption) ?_
          rotate_left
          · (intro w hSw; (try dsimp only at hSw); go_simp; try with_reducible rfl)
          try simp only [Act.put, List.setIfInBounds_toArray, List.set_cons_zero, List.set_cons_succ]
          refine wpAnyH_take (i := 1) (oi := Oper.mk _ _ _ _ _ _) (v := ?_) rfl (by kernel_rfl) (by kernel_rfl) (by kernel_rfl) (fun _ _ _ h => h) (Or.inl ⟨by rfl, ?_⟩) (by assumption) ?_
          rotate_left
          · (intro w hSw; (try dsimp only at hSw); go_simp; try with_reducible rfl)
          try simp only [Act.put, List.setIfInBounds_toArray, List.set_cons_zero, List.set_cons_succ]
          refine wpAnyH_take (i := 2) (oi := Oper.mk _ _ _ _ _ _) (v := ?_) rfl (by kernel_rfl) (by kernel_rfl) (by kernel_rfl) (fun _ _ _ h => h) (Or.inl ⟨by rfl, ?_⟩) (by assumption) ?_
          rotate_left
          · (intro w hSw; (try dsimp only at hSw); go_simp; try with_reducible rfl)
          try simp only [Act.put, List.setIfInBounds_toArray, List.set_cons_zero, List.set_cons_succ]
          refine wpAnyH_take (i := 3) (oi := Oper.mk _ _ _ _ _ _) (v := ?_) rfl (by kernel_rfl) (by kernel_rfl) (by kernel_rfl) (fun _ _ _ h => h) (Or.inl ⟨by rfl, ?_⟩) (by assumption) ?_
          rotate_left
          · (intro w hSw; (try dsimp only at hSw); go_simp; try with_reducible rfl)
          try simp only [Act.put, List.setIfInBounds_toArray, List.set_cons_zero, List.set_cons_succ]
          refine wpAnyH_take (i := 4) (oi := Oper.mk _ _ _ _ _ _) (v := ?_) rfl (by kernel_rfl) (by kernel_rfl) (by kernel_rfl) (fun _ _ _ h => h) (Or.inl ⟨by rfl, ?_⟩) (by assumption) ?_
          rotate_left
          · (intro w hSw; (try dsimp only at hSw); go_simp; try with_reducible rfl)
          try simp only [Act.put, List.setIfInBounds_toArray, List.set_cons_zero, List.set_cons_succ]
          refine wpAnyH_take (i := 5) (oi := Oper.mk _ _ _ _ _ _) (v := ?_) rfl (by kernel_rfl) (by kernel_rfl) (by kernel_rfl) (fun _ _ _ h => h) (Or.inl ⟨by rfl, ?_⟩) (by assumption) ?_
          rotate_left
          · (intro w hSw; (try dsimp only at hSw); go_simp; try with_reducible rfl)
          try simp only [Act.put, List.setIfInBounds_toArray, List.set_cons_zero, List.set_cons_succ]
          refine wpAnyH_take (i := 6) (oi := Oper.mk _ _ _ _ _ _) (v := ?_) rfl (by kernel_rfl) (by kernel_rfl) (by kernel_rfl) (fun _ _ _ h => h) (Or.inl ⟨by rfl, ?_⟩) (by assumption) ?_
          rotate_left
          · (intro w hSw; (try dsimp only at hSw); go_simp; try with_reducible rfl)
          try simp only [Act.put, List.setIfInBounds_toArray, List.set_cons_zero, List.set_cons_succ]
          refine wpAnyH_take (i := 7) (oi := Oper.mk _ _ _ _ _ _) (v := ?_) rfl (by kernel_rfl) (by kernel_rfl) (by kernel_rfl) (fun _ _ _ h => h) (Or.inl ⟨by rfl, ?_⟩) (by assumption) ?_
          rotate_left
          · (intro w hSw; (try dsimp only at hSw); go_simp; try with_reducible rfl)
          try simp only [Act.put, List.setIfInBounds_toArray, List.set_cons_zero, List.set_cons_succ]
          refine wpAnyH_take (i := 8) (oi := Oper.mk _ _ _ _ _ _) (v := ?_) rfl (by kernel_rfl) (by kernel_rfl) (by kernel_rfl) (fun _ _ _ h => h) (Or.inl ⟨by rfl, ?_⟩) (by assumption) ?_
          rotate_left
          · (intro w hSw; (try dsimp only at hSw); go_simp; try with_reducible rfl)
          try simp only [Act.put, List.setIfInBounds_toArray, List.set_cons_zero, List.set_cons_succ]
          refine wpAnyH_take (i := 9) (oi := Oper.mk _ _ _ _ _ _) (v := ?_) rfl (by kernel_rfl) (by kernel_rfl) (by kernel_rfl) (fun _ _ _ h => h) (Or.inl ⟨by rfl, ?_⟩) (by assumption) ?_
          rotate_left
          · (intro w hSw; (try dsimp only at hSw); go_simp; try with_reducible rfl)
          try simp only [Act.put, List.setIfInBounds_toArray, List.set_cons_zero, List.set_cons_succ]
          refine wpAnyH_take (i := 10) (oi := Oper.mk _ _ _ _ _ _) (v := ?_) rfl (by kernel_rfl) (by kernel_rfl) (by kernel_rfl) (fun _ _ _ h => h) (Or.inl ⟨by rfl, ?_⟩) (by assumption) ?_
          rotate_left
          · (intro w hSw; (try dsimp only at hSw); go_simp; try with_reducible rfl)
          try simp only [Act.put, List.setIfInBounds_toArray, List.set_cons_zero, List.set_cons_succ]
          refine wpAnyH_take (i := 11) (oi := Oper.mk _ _ _ _ _ _) (v := ?_) rfl (by kernel_rfl) (by kernel_rfl) (by kernel_rfl) (fun _ _ _ h => h) (Or.inl ⟨by rfl, ?_⟩) (by assumption) ?_
          rotate_left
          · (intro w hSw; (try dsimp only at hSw); go_simp; try with_reducible rfl)
          try simp only [Act.put, List.setIfInBounds_toArray, List.set_cons_zero, List.set_cons_succ]
          refine wpAnyH_done (by kernel_rfl) ?_ _
          go_wp2_with fail
          go_ret2
          exact ⟨HPr.out _ _ _ _ HR.out.symm HE0.out.symm, HBj.out.drew⟩
        · have heq := HEq.out
          rw [eqB_false.2 he] at heq
          have HR := Lib.hid (HQ1.out he)
          clear he HEq
          go_wp2_with fail
          refine wp_region_held_drew (S := fun W => W.cell? ⟨w.heap.size + 1, 1, none⟩ = some (.slice (some ⟨vb, vo, none⟩) m2 d2) ∧ W.cell? ⟨vb, vo + k * 2, none⟩ = some (.slice (some ⟨rb, ro, none⟩) v.rows.length cr) ∧ (W.cell? ⟨rb, ro + j * 4, none⟩ = some (.int .i64 r.a0) ∧ W.cell? ⟨rb, ro + j * 4 + 1, none⟩ = some (.int .i64 r.a1) ∧ W.cell? ⟨rb, ro + j * 4 + 2, none⟩ = some (.int .i64 r.a2)) ∧ (W.cell? ⟨ab, 0, none⟩ = some (.int .i64 a.1) ∧ W.cell? ⟨ab, 1, none⟩ = some (.int .i64 a.2.1) ∧ W.cell? ⟨ab, 2, none⟩ = some (.int .i64 a.2.2))) (by kernel_rfl) (⟨p1, e0, ⟨r0, r1, r2⟩, a0, a1, a2⟩) (fun hHeld => ?_)
          refine wpAnyH_take (i := 0) (oi := Oper.mk _ _ _ _ _ _) (v := ?_) rfl (by kernel_rfl) (by kernel_rfl) (by kernel_rfl) (fun _ _ _ h => h) (Or.inl ⟨by rfl, ?_⟩) (by assumption) ?_
          rotate_left
          · (intro w hSw; (try dsimp only at hSw); go_simp; try with_reducible rfl)
          try simp only [Act.put, List.setIfInBounds_toArray, List.set_cons_zero, List.set_cons_succ]
          refine wpAnyH_take (i := 1) (oi := Oper.mk _ _ _ _ _ _) (v := ?_) rfl (by kernel_rfl) (by kernel_rfl) (by kernel_rfl) (fun _ _ _ h => h) (Or.inl ⟨by rfl, ?_⟩) (by assumption) ?_
          rotate_left
          · (intro w hSw; (try dsimp only at hSw); go_simp; try with_reducible rfl)
          try simp only [Act.put, List.setIfInBounds_toArray, List.set_cons_zero, List.set_cons_succ]
          refine wpAnyH_take (i := 2) (oi := Oper.mk _ _ _ _ _ _) (v := ?_) rfl (by kernel_rfl) (by kernel_rfl) (by kernel_rfl) (fun _ _ _ h => h) (Or.inl ⟨by rfl, ?_⟩) (by assumption) ?_
          rotate_left
          · (intro w hSw; (try dsimp only at hSw); go_simp; try with_reducible rfl)
          try simp only [Act.put, List.setIfInBounds_toArray, List.set_cons_zero, List.set_cons_succ]
          refine wpAnyH_take (i := 3) (oi := Oper.mk _ _ _ _ _ _) (v := ?_) rfl (by kernel_rfl) (by kernel_rfl) (by kernel_rfl) (fun _ _ _ h => h) (Or.inl ⟨by rfl, ?_⟩) (by assumption) ?_
          rotate_left
          · (intro w hSw; (try dsimp only at hSw); go_simp; try with_reducible rfl)
          try simp only [Act.put, List.setIfInBounds_toArray, List.set_cons_zero, List.set_cons_succ]
          refine wpAnyH_take (i := 4) (oi := Oper.mk _ _ _ _ _ _) (v := ?_) rfl (by kernel_rfl) (by kernel_rfl) (by kernel_rfl) (fun _ _ _ h => h) (Or.inl ⟨by rfl, ?_⟩) (by assumption) ?_
          rotate_left
          · (intro w hSw; (try dsimp only at hSw); go_simp; try with_reducible rfl)
          try simp only [Act.put, List.setIfInBounds_toArray, List.set_cons_zero, List.set_cons_succ]
          refine wpAnyH_take (i := 5) (oi := Oper.mk _ _ _ _ _ _) (v := ?_) rfl (by kernel_rfl) (by kernel_rfl) (by kernel_rfl) (fun _ _ _ h => h) (Or.inl ⟨by rfl, ?_⟩) (by assumption) ?_
          rotate_left
          · (intro w hSw; (try dsimp only at hSw); go_simp; try with_reducible rfl)
          try simp only [Act.put, List.setIfInBounds_toArray, List.set_cons_zero, List.set_cons_succ]
          refine wpAnyH_take (i := 6) (oi := Oper.mk _ _ _ _ _ _) (v := ?_) rfl (by kernel_rfl) (by kernel_rfl) (by kernel_rfl) (fun _ _ _ h => h) (Or.inl ⟨by rfl, ?_⟩) (by assumption) ?_
          rotate_left
          · (intro w hSw; (try dsimp only at hSw); go_simp; try with_reducible rfl)
          try simp only [Act.put, List.setIfInBounds_toArray, List.set_cons_zero, List.set_cons_succ]
          refine wpAnyH_take (i := 7) (oi := Oper.mk _ _ _ _ _ _) (v := ?_) rfl (by kernel_rfl) (by kernel_rfl) (by kernel_rfl) (fun _ _ _ h => h) (Or.inl ⟨by rfl, ?_⟩) (by assumption) ?_
          rotate_left
          · (intro w hSw; (try dsimp only at hSw); go_simp; try with_reducible rfl)
          try simp only [Act.put, List.setIfInBounds_toArray, List.set_cons_zero, List.set_cons_succ]
          refine wpAnyH_take (i := 8) (oi := Oper.mk _ _ _ _ _ _) (v := ?_) rfl (by kernel_rfl) (by kernel_rfl) (by kernel_rfl) (fun _ _ _ h => h) (Or.inl ⟨by rfl, ?_⟩) (by assumption) ?_
          rotate_left
          · (intro w hSw; (try dsimp only at hSw); go_simp; try with_reducible rfl)
          try simp only [Act.put, List.setIfInBounds_toArray, List.set_cons_zero, List.set_cons_succ]
          refine wpAnyH_take (i := 9) (oi := Oper.mk _ _ _ _ _ _) (v := ?_) rfl (by kernel_rfl) (by kernel_rfl) (by kernel_rfl) (fun _ _ _ h => h) (Or.inl ⟨by rfl, ?_⟩) (by assumption) ?_
          rotate_left
          · (intro w hSw; (try dsimp only at hSw); go_simp; try with_reducible rfl)
          try simp only [Act.put, List.setIfInBounds_toArray, List.set_cons_zero, List.set_cons_succ]
          refine wpAnyH_take (i := 10) (oi := Oper.mk _ _ _ _ _ _) (v := ?_) rfl (by kernel_rfl) (by kernel_rfl) (by kernel_rfl) (fun _ _ _ h => h) (Or.inl ⟨by rfl, ?_⟩) (by assumption) ?_
          rotate_left
          · (intro w hSw; (try dsimp only at hSw); go_simp; try with_reducible rfl)
          try simp only [Act.put, List.setIfInBounds_toArray, List.set_cons_zero, List.set_cons_succ]
          refine wpAnyH_take (i := 11) (oi := Oper.mk _ _ _ _ _ _) (v := ?_) rfl (by kernel_rfl) (by kernel_rfl) (by kernel_rfl) (fun _ _ _ h => h) (Or.inl ⟨by rfl, ?_⟩) (by assumption) ?_
          rotate_left
          · (intro w hSw; (try dsimp only at hSw); go_simp; try with_reducible rfl)
          try simp only [Act.put, List.setIfInBounds_toArray, List.set_cons_zero, List.set_cons_succ]
          refine wpAnyH_done (by kernel_rfl) ?_ _
          go_wp2_with fail
          go_roundw
          case rel => exact ⟨j + 1, by omega, by go_num, HR.out, HB.out.drew⟩
          case measure => simp [intOf]; omega
      · obtain rfl : j = v.rows.length := by omega
        have HR := Lib.hid (show applyV g x (k : Int) l = v.els by rw [HV.out, ← HPa.out]; rw [HR0.out HEl.out])
        go_wp2_with fail
        go_ret2
        exact ⟨HPr.out _ _ _ _ HR.out.symm HE0.out.symm, HBj.out⟩
  · have HR := Lib.hid (HBd.out h0)
    have h0' : (E == 0) = false := beq_eq_false_iff_ne.2 h0
    have h0'' : (E != 0) = true := by rw [bne, h0']; rfl
    have HEq := Lib.hid hE
    clear hE
    go_wp2_with fail
    go_ret2
    exact ⟨HPr.out _ _ _ _ HR.out.symm HEq.out.symm, HB4.out⟩
end Go.Proofs.YtfcmpfaonpnbaaaGreatDoor.Vl
