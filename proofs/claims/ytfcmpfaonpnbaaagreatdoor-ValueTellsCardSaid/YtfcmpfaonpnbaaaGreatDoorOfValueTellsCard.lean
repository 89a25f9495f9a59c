import Derived.Test.YtfcmpfaonpnbaaaGreatDoorMzc
import Derived.Test.YtfcmpfaonpnbaaaGreatDoorMza
import Derived.Test.YtfcmpfaonpnbaaaGreatDoorMp
import Derived.Test.YtfcmpfaonpnbaaaGreatDoorMzd
import Derived.Test.YtfcmpfaonpnbaaaGreatDoorMm
import Derived.Test.YtfcmpfaonpnbaaaGreatDoorMf
import Derived.Test.YtfcmpfaonpnbaaaGreatDoorCards
import Derived.Test.YtfcmpfaonpnbaaaGreatDoorTie
import Derived.Test.YtfcmpfaonpnbaaaGreatDoorMo
import Derived.Test.YtfcmpfaonpnbaaaGreatDoorMa
/- merged by wip/merge.py from: VLawX ValueTellsCard -/
/- What the program tells of a world is what the document tells: the walk of the law. -/
namespace Go.Proofs.YtfcmpfaonpnbaaaGreatDoor.Vl
open Go.RowKit Go.Proofs.YtfcmpfaonpnbaaaGreatDoor.Dt Go.Proofs.YtfcmpfaonpnbaaaGreatDoor.Sg Go.Proofs.YtfcmpfaonpnbaaaGreatDoor.Gr

/-- memory while a law asks: the signature's box, two worlds' boxes -/
structure XB (w W : World) (u0 u1 u2 v0 v1 o0 o1 : Value) : Prop where
  below : Below w.heap.size w W
  g0 : W.cell? ⟨w.heap.size, 0, none⟩ = some u0
  g1 : W.cell? ⟨w.heap.size, 1, none⟩ = some u1
  g2 : W.cell? ⟨w.heap.size, 2, none⟩ = some u2
  v0 : W.cell? ⟨w.heap.size + 1, 0, none⟩ = some v0
  v1 : W.cell? ⟨w.heap.size + 1, 1, none⟩ = some v1
  o0 : W.cell? ⟨w.heap.size + 1 + 1, 0, none⟩ = some o0
  o1 : W.cell? ⟨w.heap.size + 1 + 1, 1, none⟩ = some o1
  l : w.heap.size + 1 + 1 < W.heap.size
theorem XB.on {w W W' : World} {u0 u1 u2 v0 v1 o0 o1 : Value} (h : XB w W u0 u1 u2 v0 v1 o0 o1) (hb : Below W.heap.size W W') : XB w W' u0 u1 u2 v0 v1 o0 o1 := by
  have e := fun b o (hlt : b < W.heap.size) => (bcell hb).1 b o hlt
  have s := hb.size
  have l := h.l
  exact ⟨h.below.trans (hb.mono h.below.size), (e _ _ (by omega)).trans h.g0, (e _ _ (by omega)).trans h.g1, (e _ _ (by omega)).trans h.g2, (e _ _ (by omega)).trans h.v0, (e _ _ (by omega)).trans h.v1, (e _ _ (by omega)).trans h.o0, (e _ _ (by omega)).trans h.o1, by omega⟩
theorem xb_made (w : World) (u0 u1 u2 v0 v1 o0 o1 : Value) (t t' t'' : TypeId) : XB w (((w.alloc (.cells #[u0, u1, u2] t)).alloc (.cells #[v0, v1] t')).alloc (.cells #[o0, o1] t'')) u0 u1 u2 v0 v1 o0 o1 := by
  have hg := gw_made w u0 u1 u2 v0 v1 t t'
  have hb := ((Below.refl w.heap.size w).alloc (Nat.le_refl _) (.cells #[u0, u1, u2] t)).alloc (by simp) (.cells #[v0, v1] t')
  have z2 : ((w.alloc (.cells #[u0, u1, u2] t)).alloc (.cells #[v0, v1] t')).heap.size = w.heap.size + 1 + 1 := by simp
  generalize (w.alloc (.cells #[u0, u1, u2] t)).alloc (.cells #[v0, v1] t') = w2 at *
  have B := (Below.refl w2.heap.size w2).alloc (Nat.le_refl _) (.cells #[o0, o1] t'')
  have c := fun j => alloc_cell w2 #[o0, o1] t'' (w.heap.size + 1 + 1) j z2
  have g := hg.on B
  exact ⟨hb.trans (B.mono hb.size), g.g0, g.g1, g.g2, g.v0, g.v1, c 0, c 1, by simp; omega⟩
theorem YB'.made (W : World) (q0 q1 : Value) (t : TypeId) : YB' (W.alloc (.cells #[q0, q1] t)) W.heap.size q0 q1 :=
  ⟨by rw [World.cell?_alloc_mark]; rfl, by rw [World.cell?_alloc_mark]; rfl, by simp⟩
set_option maxRecDepth 100000 in
set_option maxHeartbeats 12800000 in
theorem valueTells_all {w : World} {A1 A2 A3 : Option Addr} {c1 c2 c3 : Nat} {g : Sig} (hg : SigAt w A1 c1 A2 c2 A3 c3 g) {B1 B2 : Option Addr} {d1 d2 : Nat} {x : Wrld} (hx : WrldAt w B1 d1 B2 d2 x) {C1 C2 : Option Addr} {e1 e2 : Nat} {y : Wrld} (hy : WrldAt w C1 e1 C2 e2 y) (f : Int) (l : List Int) (A : Option Addr) (c : Nat) (s v : Int)
    (hf : I64 f) (hl : Cells w A (l.map (Value.int .i64))) (hli : ∀ y ∈ l, I64 y) (_ : l.length ≤ c) (_ : c ≤ 2 ^ 63 - 1) (hs : I64 s) (hv : I64 v) (ht : TabOk w) :
    Calls Tryz.prog 3 #[.agg #[.slice A1 g.sorts.length c1, .slice A2 g.funs.length c2, .slice A3 g.macros.length c3], .agg #[.slice B1 x.sizes.length d1, .slice B2 x.funs.length d2], .agg #[.slice C1 y.sizes.length e1, .slice C2 y.funs.length e2], .int .i64 f, .slice A l.length c, .int .i64 s, .int .i64 v] w fun e w' => e = .returned (.bool true) ∧ Below w.heap.size w w' := by
  have HX1 := Lib.hid (xb_made w (.slice A1 g.sorts.length c1) (.slice A2 g.funs.length c2) (.slice A3 g.macros.length c3) (.slice B1 x.sizes.length d1) (.slice B2 x.funs.length d2) (.slice C1 y.sizes.length e1) (.slice C2 y.funs.length e2) 26 30 30)
  have HGr := Lib.hid (fun W (hW : Below w.heap.size w W) => great4_any (hg.on hW))
  have HG9 := Lib.hid (fun W (hW : Below w.heap.size w W) => great9_any (hx.on hW))
  have HGo := Lib.hid (fun W (hW : Below w.heap.size w W) => great9_any (hy.on hW))
  have HW := Lib.hid (fun W (hW : Below w.heap.size w W) => wakes_any W (ht.on hW))
  have HAp := Lib.hid (fun W (hW : Below w.heap.size w W) (hs : Small g) (hs2 : SmallW x) (hn : l.length ≤ 10) => apply_any (c := c) (hg.on hW) (hx.on hW) (by have := hs.1; omega) (by have := hs.2.1; omega) (by have := hs.2.2; omega) (by have := hs2.1; omega) f hf (hl.on hW) hli (by omega))
  have HrAp := Lib.hid (fun W (hW : Below w.heap.size w W) (hs : Small g) (hs2 : SmallW x) (hn : l.length ≤ 10) => rapply_any (c := c) (hg.on hW) (hx.on hW) (by have := hs.1; omega) (by have := hs.2.1; omega) (by have := hs.2.2; omega) (by have := hs2.1; omega) f hf (hl.on hW) hli (by omega))
  have HWt := Lib.hid (fun W (hW : Below w.heap.size w W) (hs : Small g) (hs2 : SmallW x) (hn : l.length ≤ 10) => with_any (c := c) (hg.on hW) (hx.on hW) (by have := hs.1; omega) (by have := hs.2.1; omega) (by have := hs.2.2; omega) (by have := hs2.1; omega) f hf (hl.on hW) hli (by omega) v hv)
  have HrWt := Lib.hid (fun W (hW : Below w.heap.size w W) (hs : Small g) (hs2 : SmallW x) (hn : l.length ≤ 10) => rwith_any (c := c) (hg.on hW) (hx.on hW) (by have := hs.1; omega) (by have := hs.2.1; omega) (by have := hs.2.2; omega) (by have := hs2.1; omega) f hf (hl.on hW) hli (by omega) v hv)
  have HTx := Lib.hid (fun W (hW : Below w.heap.size w W) (hq : Small g) => vtext_any (A2 := A2) (A3 := A3) (c1 := c1) (n2 := g.funs.length) (c2 := c2) (n3 := g.macros.length) (c3 := c3) (hg.on hW).sorts (by have := hq.1; omega) s v hs hv (ht.on hW))
  have HrTx := Lib.hid (fun W (hW : Below w.heap.size w W) (hq : Small g) => rvtext_any (A2 := A2) (A3 := A3) (c1 := c1) (n2 := g.funs.length) (c2 := c2) (n3 := g.macros.length) (c3 := c3) (hg.on hW).sorts (by have := hq.1; omega) s v hs hv)
  have HIs := Lib.hid (fun W (hW : Below w.heap.size w W) (hs : Small g) (hs2 : SmallW x) => is_any (A1 := A1) (A2 := A2) (A3 := A3) (B2 := B2) (n1 := g.sorts.length) (c1 := c1) (n2 := g.funs.length) (c2 := c2) (n3 := g.macros.length) (c3 := c3) (d1 := d1) (m := x.funs.length) (d2 := d2) (hx.on hW).sizes (by have := hs2.1; omega) (by have := hs.1; omega) s v hv)
  have HrIs := Lib.hid (fun W (hW : Below w.heap.size w W) (hs : Small g) (hs2 : SmallW x) => ris_any (A1 := A1) (A2 := A2) (A3 := A3) (B2 := B2) (n1 := g.sorts.length) (c1 := c1) (n2 := g.funs.length) (c2 := c2) (n3 := g.macros.length) (c3 := c3) (d1 := d1) (m := x.funs.length) (d2 := d2) (hx.on hW).sizes (by have := hs2.1; omega) (by have := hs.1; omega) s v hv)
  have HMy := Lib.hid (fun W (hW : Below w.heap.size w W) (hs : Small g) (hs2 : SmallW x) => vmay_any (hg.on hW) (hx.on hW) (by have := hs.1; omega) (by have := hs.2.1; omega) (by have := hs.2.2; omega) (by have := hs2.1; omega))
  have HrMy := Lib.hid (fun W (hW : Below w.heap.size w W) (hs : Small g) (hs2 : SmallW x) => rmayw_any (hg.on hW) (hx.on hW) (by have := hs.1; omega) (by have := hs.2.1; omega) (by have := hs.2.2; omega) (by have := hs2.1; omega))
  have HPl := Lib.hid (fun W (hs : Small g) => plain_any g (by have := hs.1; omega) (by have := hs.2.1; omega) W A1 A2 A3 c1 c2 g.macros.length c3)
  have HrPl := Lib.hid (fun W (hs : Small g) => rplain_any g (by have := hs.1; omega) (by have := hs.2.1; omega) W A1 A2 A3 c1 c2 g.macros.length c3)
  have HVs := Lib.hid (fun W (hW : Below w.heap.size w W) => vsame_any (hx.on hW) (hy.on hW))
  have HrVs := Lib.hid (fun W (hW : Below w.heap.size w W) => rvsame_any (hx.on hW) (hy.on hW))
  unfold WithPost at HWt HrWt
  unfold PlainPost at HPl HrPl
  clear hg hx hy ht hf hl hli hs hv
  generalize withW g x f l v = Z at *
  generalize withE g x f l v = ze at *
  generalize applyV g x f l = av at *
  generalize askE g x f l = ae at *
  generalize txtS g.sorts s v = ts at *
  generalize txtE g.sorts.length s v = te at *
  generalize isB g.sorts.length x.sizes s v = ib at *
  generalize mayW g x = mb at *
  generalize plainW g = P at *
  generalize eqB x y = sb at *
  generalize g.sorts.length = n1 at *
  generalize g.funs.length = n2 at *
  generalize g.macros.length = n3 at *
  generalize x.sizes.length = n4 at *
  generalize x.funs.length = n5 at *
  generalize y.sizes.length = n6 at *
  generalize y.funs.length = n7 at *
  go_enter Tryz.func3, Tryz.ntmps3
  go_wp2_with fail
  generalize ((w.alloc (.cells #[.slice A1 n1 c1, .slice A2 n2 c2, .slice A3 n3 c3] 26)).alloc (.cells #[.slice B1 n4 d1, .slice B2 n5 d2] 30)).alloc (.cells #[.slice C1 n6 e1, .slice C2 n7 e2] 30) = w1 at *
  obtain ⟨_, q0, q1, q2, q3, q4, q5, q6, _⟩ := HX1.out
  go_wp2_with fail
  refine (HGr.out w1 HX1.out.below).mono ?_
  rintro e w2 ⟨⟨gb, rfl, hsm⟩, hb2⟩
  have HX2 := Lib.hid (HX1.out.on hb2)
  have HSm := Lib.hid hsm
  clear hb2 hsm HX1 q0 q1 q2 q3 q4 q5 q6
  obtain ⟨_, q0, q1, q2, q3, q4, q5, q6, _⟩ := HX2.out
  cases gb with
  | true =>
    go_wp2_with fail
    refine (HW.out w2 HX2.out.below).mono ?_
    rintro e w3 ⟨rfl, hb3⟩
    have HX3 := Lib.hid (HX2.out.on hb3)
    clear hb3
    go_wp2_with fail
    go_ret
    exact ⟨rfl, HX3.out.below⟩
  | false =>
    have HS := Lib.hid (HSm.out rfl)
    go_wp2_with fail
    refine (HG9.out w2 HX2.out.below).mono ?_
    rintro e w3 ⟨⟨gc, rfl, hsm⟩, hb3⟩
    have HX3 := Lib.hid (HX2.out.on hb3)
    have HSx := Lib.hid hsm
    clear hb3 hsm q0 q1 q2 q3 q4 q5 q6 HX2
    obtain ⟨_, q0, q1, q2, q3, q4, q5, q6, _⟩ := HX3.out
    cases gc with
    | true =>
      go_wp2_with fail
      refine (HW.out w3 HX3.out.below).mono ?_
      rintro e w4 ⟨rfl, hb4⟩
      have HX4 := Lib.hid (HX3.out.on hb4)
      clear hb4
      go_wp2_with fail
      go_ret
      exact ⟨rfl, HX4.out.below⟩
    | false =>
      have HS2 := Lib.hid (HSx.out rfl)
      go_wp2_with fail
      refine (HGo.out w3 HX3.out.below).mono ?_
      rintro e w4 ⟨⟨gd, rfl, _⟩, hb4⟩
      have HX4 := Lib.hid (HX3.out.on hb4)
      clear hb4 q0 q1 q2 q3 q4 q5 q6 HX3
      obtain ⟨_, q0, q1, q2, q3, q4, q5, q6, _⟩ := HX4.out
      cases gd with
      | true =>
        go_wp2_with fail
        refine (HW.out w4 HX4.out.below).mono ?_
        rintro e w5 ⟨rfl, hb5⟩
        have HX5 := Lib.hid (HX4.out.on hb5)
        clear hb5
        go_wp2_with fail
        go_ret
        exact ⟨rfl, HX5.out.below⟩
      | false =>
        by_cases h10 : (10 : Int) < (l.length : Int)
        · have h10' := decide_eq_true h10
          go_wp2_with fail
          refine (HW.out w4 HX4.out.below).mono ?_
          rintro e w5 ⟨rfl, hb5⟩
          have HX5 := Lib.hid (HX4.out.on hb5)
          clear hb5
          go_wp2_with fail
          go_ret
          exact ⟨rfl, HX5.out.below⟩
        · have h10' := decide_eq_false h10
          have hn10 : l.length ≤ 10 := by omega
          have haa : (av != av) = false := by simp
          have hae : (ae != ae) = false := by simp
          have hze : (ze == ze) = true := by simp
          have hte : (te == te) = true := by simp
          have hts : (ts.toList == ts.toList) = true := by simp
          go_wp2_with fail
          refine (HAp.out w4 HX4.out.below HS.out HS2.out hn10).mono ?_
          rintro e w5 ⟨rfl, hb5⟩
          have HX5 := Lib.hid (HX4.out.on hb5)
          clear hb5 q0 q1 q2 q3 q4 q5 q6 HX4
          obtain ⟨_, q0, q1, q2, q3, q4, q5, q6, _⟩ := HX5.out
          go_wp2_with fail
          refine (HrAp.out w5 HX5.out.below HS.out HS2.out hn10).mono ?_
          rintro e w6 ⟨rfl, hb6⟩
          have HX6 := Lib.hid (HX5.out.on hb6)
          clear hb6 q0 q1 q2 q3 q4 q5 q6 HX5
          obtain ⟨_, q0, q1, q2, q3, q4, q5, q6, _⟩ := HX6.out
          go_wp2_with fail
          refine (HWt.out w6 HX6.out.below HS.out HS2.out hn10).mono ?_
          rintro e w7 ⟨D1, a1, D2, a2, rfl, hz, hb7⟩
          have BA7 := Lib.hid ((Below.refl w7.heap.size w7).alloc (Nat.le_refl _) (.cells #[.slice D1 Z.sizes.length a1, .slice D2 Z.funs.length a2] 30))
          have HX8 := Lib.hid ((HX6.out.on hb7).on BA7.out)
          have HZ8 := Lib.hid (hz.on BA7.out)
          have HY8 := Lib.hid (YB'.made w7 (.slice D1 Z.sizes.length a1) (.slice D2 Z.funs.length a2) 30)
          clear hb7 hz q0 q1 q2 q3 q4 q5 q6 HX6 BA7
          obtain ⟨_, q0, q1, q2, q3, q4, q5, q6, _⟩ := HX8.out
          go_upto_region 8 with fail
          generalize hyb : w7.heap.size = yb at *
          clear hyb
          generalize w7.alloc (.cells #[.slice D1 Z.sizes.length a1, .slice D2 Z.funs.length a2] 30) = w8 at *
          go_wp2_with fail
          refine (HrWt.out w8 HX8.out.below HS.out HS2.out hn10).mono ?_
          rintro e w9 ⟨E1, b1, E2, b2, rfl, hz, hb9⟩
          have BA9 := Lib.hid ((Below.refl w9.heap.size w9).alloc (Nat.le_refl _) (.cells #[.slice E1 Z.sizes.length b1, .slice E2 Z.funs.length b2] 30))
          have HX10 := Lib.hid ((HX8.out.on hb9).on BA9.out)
          have HZ10 := Lib.hid ((HZ8.out.on hb9).on BA9.out)
          have HY10 := Lib.hid ((HY8.out.on hb9).on BA9.out)
          have HU10 := Lib.hid (hz.on BA9.out)
          have HV10 := Lib.hid (YB'.made w9 (.slice E1 Z.sizes.length b1) (.slice E2 Z.funs.length b2) 30)
          clear hb9 hz q0 q1 q2 q3 q4 q5 q6 HX8 BA9 HZ8 HY8
          obtain ⟨_, q0, q1, q2, q3, q4, q5, q6, _⟩ := HX10.out
          go_upto_region 9 with fail
          generalize hvb : w9.heap.size = vb at *
          clear hvb
          generalize w9.alloc (.cells #[.slice E1 Z.sizes.length b1, .slice E2 Z.funs.length b2] 30) = w10 at *
          go_wp2_with fail
          refine (HTx.out w10 HX10.out.below HS.out).mono ?_
          rintro e w11 ⟨rfl, hb11⟩
          have HX11 := Lib.hid (HX10.out.on hb11)
          have HZ11 := Lib.hid (HZ10.out.on hb11)
          have HY11 := Lib.hid (HY10.out.on hb11)
          have HU11 := Lib.hid (HU10.out.on hb11)
          have HV11 := Lib.hid (HV10.out.on hb11)
          clear hb11 q0 q1 q2 q3 q4 q5 q6 HX10 HZ10 HY10 HU10 HV10
          obtain ⟨_, q0, q1, q2, q3, q4, q5, q6, _⟩ := HX11.out
          go_wp2_with fail
          refine (HrTx.out w11 HX11.out.below HS.out).mono ?_
          rintro e w12 ⟨rfl, hb12⟩
          have HX12 := Lib.hid (HX11.out.on hb12)
          have HZ12 := Lib.hid (HZ11.out.on hb12)
          have HY12 := Lib.hid (HY11.out.on hb12)
          have HU12 := Lib.hid (HU11.out.on hb12)
          have HV12 := Lib.hid (HV11.out.on hb12)
          clear hb12 q0 q1 q2 q3 q4 q5 q6 HX11 HZ11 HY11 HU11 HV11
          go_wp2_with fail
          have HSt := Lib.hid (fun W (hW : Below w12.heap.size w12 W) => (show (fun W => (W.cell? ⟨w.heap.size, 0, none⟩ = some (.slice A1 n1 c1) ∧ W.cell? ⟨w.heap.size, 1, none⟩ = some (.slice A2 n2 c2) ∧ W.cell? ⟨w.heap.size, 2, none⟩ = some (.slice A3 n3 c3)) ∧ (W.cell? ⟨w.heap.size + 1, 0, none⟩ = some (.slice B1 n4 d1) ∧ W.cell? ⟨w.heap.size + 1, 1, none⟩ = some (.slice B2 n5 d2)) ∧ (W.cell? ⟨w.heap.size + 1 + 1, 0, none⟩ = some (.slice C1 n6 e1) ∧ W.cell? ⟨w.heap.size + 1 + 1, 1, none⟩ = some (.slice C2 n7 e2)) ∧ (W.cell? ⟨yb, 0, none⟩ = some (.slice D1 Z.sizes.length a1) ∧ W.cell? ⟨yb, 1, none⟩ = some (.slice D2 Z.funs.length a2)) ∧ (W.cell? ⟨vb, 0, none⟩ = some (.slice E1 Z.sizes.length b1) ∧ W.cell? ⟨vb, 1, none⟩ = some (.slice E2 Z.funs.length b2))) W from by
            have h := HX12.out.on hW
            have k1 := HY12.out.on hW
            have k2 := HV12.out.on hW
            exact ⟨⟨h.g0, h.g1, h.g2⟩, ⟨h.v0, h.v1⟩, ⟨h.o0, h.o1⟩, ⟨k1.y0, k1.y1⟩, k2.y0, k2.y1⟩))
          have HOn := Lib.hid (fun W (hW : Below w12.heap.size w12 W) => HX12.out.below.trans (hW.mono HX12.out.below.size))
          have HZZ := Lib.hid (fun W (hW : Below w12.heap.size w12 W) => rvsame_any (HZ12.out.on hW) (HU12.out.on hW))
          have HPP := Lib.hid (fun W P1 p1 P2 p2 R1 r1 R2 r2 (h1 : WrldAt W P1 p1 P2 p2 P) (h2 : WrldAt W R1 r1 R2 r2 P) => rvsame_any h1 h2)
          rw [eqB_self] at HZZ HPP
          have hib : (ib == ib) = true := by simp
          have hmb : (mb == mb) = true := by simp
          have hsb : (sb == sb) = true := by simp
          have HD_w12 := Lib.hid (Below.refl w12.heap.size w12).drew
          refine wp_region_held_drew (S := fun W => (W.cell? ⟨w.heap.size, 0, none⟩ = some (.slice A1 n1 c1) ∧ W.cell? ⟨w.heap.size, 1, none⟩ = some (.slice A2 n2 c2) ∧ W.cell? ⟨w.heap.size, 2, none⟩ = some (.slice A3 n3 c3)) ∧ (W.cell? ⟨w.heap.size + 1, 0, none⟩ = some (.slice B1 n4 d1) ∧ W.cell? ⟨w.heap.size + 1, 1, none⟩ = some (.slice B2 n5 d2)) ∧ (W.cell? ⟨w.heap.size + 1 + 1, 0, none⟩ = some (.slice C1 n6 e1) ∧ W.cell? ⟨w.heap.size + 1 + 1, 1, none⟩ = some (.slice C2 n7 e2)) ∧ (W.cell? ⟨yb, 0, none⟩ = some (.slice D1 Z.sizes.length a1) ∧ W.cell? ⟨yb, 1, none⟩ = some (.slice D2 Z.funs.length a2)) ∧ (W.cell? ⟨vb, 0, none⟩ = some (.slice E1 Z.sizes.length b1) ∧ W.cell? ⟨vb, 1, none⟩ = some (.slice E2 Z.funs.length b2))) (by kernel_rfl) (HSt.out _ HD_w12.out) (fun hHeld => ?_)
          generalize hwd : World.drew _ = wd at *
          clear hwd
          refine wpAnyH_take (i := 0) (oi := Oper.mk _ _ _ _ _ _) (v := ?_) rfl (by kernel_rfl) (by kernel_rfl) (by kernel_rfl) (fun _ _ _ h => h) (Or.inl ⟨by rfl, ?_⟩) (by assumption) ?_
          rotate_left
          · (intro w hSw; (try dsimp only at hSw); go_simp; try with_reducible rfl)
          try simp only [Act.put, List.setIfInBounds_toArray, List.set_cons_zero, List.set_cons_succ]
          refine wpAnyH_take (i := 1) (oi := Oper.mk _ _ _ _ _ _) (v := ?_) rfl (by kernel_rfl) (by kernel_rfl) (by kernel_rfl) (fun _ _ _ h => h) (Or.inl ⟨by rfl, ?_⟩) (by assumption) ?_
          rotate_left
          · (intro w hSw; (try dsimp only at hSw); go_simp; try with_reducible rfl)
          try simp only [Act.put, List.setIfInBounds_toArray, List.set_cons_zero, List.set_cons_succ]
          refine wpAnyH_ready (rs := [2]) (by kernel_rfl) (by simp) ?_
          refine AllReadyH.cons (o := Oper.mk _ _ _ _ _ _) rfl (fun K hK => ?_) AllReadyH.nil
          go_simp
          go_wp2_with (go_at_call 13; refine (HZZ.out _ HD_w12.out).mono ?_; rintro e wa ⟨rfl, hbN⟩; have HD_wa := Lib.hid (HD_w12.out.trans (hbN.mono HD_w12.out.size)))
          refine hK.out _ _ (HSt.out _ HD_wa.out) (fun hHeld => ?_)
          clear hK K
          try simp only [Act.put, List.setIfInBounds_toArray, List.set_cons_zero, List.set_cons_succ]
          clear hbN
          refine wpAnyH_take (i := 3) (oi := Oper.mk _ _ _ _ _ _) (v := ?_) rfl (by kernel_rfl) (by kernel_rfl) (by kernel_rfl) (fun _ _ _ h => h) (Or.inl ⟨by rfl, ?_⟩) (by assumption) ?_
          rotate_left
          · (intro w hSw; (try dsimp only at hSw); go_simp; try with_reducible rfl)
          try simp only [Act.put, List.setIfInBounds_toArray, List.set_cons_zero, List.set_cons_succ]
          refine wpAnyH_take (i := 4) (oi := Oper.mk _ _ _ _ _ _) (v := ?_) rfl (by kernel_rfl) (by kernel_rfl) (by kernel_rfl) (fun _ _ _ h => h) (Or.inl ⟨by rfl, ?_⟩) (by assumption) ?_
          rotate_left
          · (intro w hSw; (try dsimp only at hSw); go_simp; try with_reducible rfl)
          try simp only [Act.put, List.setIfInBounds_toArray, List.set_cons_zero, List.set_cons_succ]
          refine wpAnyH_take (i := 5) (oi := Oper.mk _ _ _ _ _ _) (v := ?_) rfl (by kernel_rfl) (by kernel_rfl) (by kernel_rfl) (fun _ _ _ h => h) (Or.inl ⟨by rfl, ?_⟩) (by assumption) ?_
          rotate_left
          · (intro w hSw; (try dsimp only at hSw); go_simp; try with_reducible rfl)
          try simp only [Act.put, List.setIfInBounds_toArray, List.set_cons_zero, List.set_cons_succ]
          refine wpAnyH_take (i := 6) (oi := Oper.mk _ _ _ _ _ _) (v := ?_) rfl (by kernel_rfl) (by kernel_rfl) (by kernel_rfl) (fun _ _ _ h => h) (Or.inl ⟨by rfl, ?_⟩) (by assumption) ?_
          rotate_left
          · (intro w hSw; (try dsimp only at hSw); go_simp; try with_reducible rfl)
          try simp only [Act.put, List.setIfInBounds_toArray, List.set_cons_zero, List.set_cons_succ]
          refine wpAnyH_take (i := 7) (oi := Oper.mk _ _ _ _ _ _) (v := ?_) rfl (by kernel_rfl) (by kernel_rfl) (by kernel_rfl) (fun _ _ _ h => h) (Or.inl ⟨by rfl, ?_⟩) (by assumption) ?_
          rotate_left
          · (intro w hSw; (try dsimp only at hSw); go_simp; try with_reducible rfl)
          try simp only [Act.put, List.setIfInBounds_toArray, List.set_cons_zero, List.set_cons_succ]
          refine wpAnyH_take (i := 8) (oi := Oper.mk _ _ _ _ _ _) (v := ?_) rfl (by kernel_rfl) (by kernel_rfl) (by kernel_rfl) (fun _ _ _ h => h) (Or.inl ⟨by rfl, ?_⟩) (by assumption) ?_
          rotate_left
          · (intro w hSw; (try dsimp only at hSw); go_simp; try with_reducible rfl)
          try simp only [Act.put, List.setIfInBounds_toArray, List.set_cons_zero, List.set_cons_succ]
          refine wpAnyH_take (i := 9) (oi := Oper.mk _ _ _ _ _ _) (v := ?_) rfl (by kernel_rfl) (by kernel_rfl) (by kernel_rfl) (fun _ _ _ h => h) (Or.inl ⟨by rfl, ?_⟩) (by assumption) ?_
          rotate_left
          · (intro w hSw; (try dsimp only at hSw); go_simp; try with_reducible rfl)
          try simp only [Act.put, List.setIfInBounds_toArray, List.set_cons_zero, List.set_cons_succ]
          refine wpAnyH_take (i := 10) (oi := Oper.mk _ _ _ _ _ _) (v := ?_) rfl (by kernel_rfl) (by kernel_rfl) (by kernel_rfl) (fun _ _ _ h => h) (Or.inl ⟨by rfl, ?_⟩) (by assumption) ?_
          rotate_left
          · (intro w hSw; (try dsimp only at hSw); go_simp; try with_reducible rfl)
          try simp only [Act.put, List.setIfInBounds_toArray, List.set_cons_zero, List.set_cons_succ]
          refine wpAnyH_take (i := 11) (oi := Oper.mk _ _ _ _ _ _) (v := ?_) rfl (by kernel_rfl) (by kernel_rfl) (by kernel_rfl) (fun _ _ _ h => h) (Or.inl ⟨by rfl, ?_⟩) (by assumption) ?_
          rotate_left
          · (intro w hSw; (try dsimp only at hSw); go_simp; try with_reducible rfl)
          try simp only [Act.put, List.setIfInBounds_toArray, List.set_cons_zero, List.set_cons_succ]
          refine wpAnyH_take (i := 12) (oi := Oper.mk _ _ _ _ _ _) (v := ?_) rfl (by kernel_rfl) (by kernel_rfl) (by kernel_rfl) (fun _ _ _ h => h) (Or.inl ⟨by rfl, ?_⟩) (by assumption) ?_
          rotate_left
          · (intro w hSw; (try dsimp only at hSw); go_simp; try with_reducible rfl)
          try simp only [Act.put, List.setIfInBounds_toArray, List.set_cons_zero, List.set_cons_succ]
          refine wpAnyH_take (i := 13) (oi := Oper.mk _ _ _ _ _ _) (v := ?_) rfl (by kernel_rfl) (by kernel_rfl) (by kernel_rfl) (fun _ _ _ h => h) (Or.inl ⟨by rfl, ?_⟩) (by assumption) ?_
          rotate_left
          · (intro w hSw; (try dsimp only at hSw); go_simp; try with_reducible rfl)
          try simp only [Act.put, List.setIfInBounds_toArray, List.set_cons_zero, List.set_cons_succ]
          refine wpAnyH_take (i := 14) (oi := Oper.mk _ _ _ _ _ _) (v := ?_) rfl (by kernel_rfl) (by kernel_rfl) (by kernel_rfl) (fun _ _ _ h => h) (Or.inl ⟨by rfl, ?_⟩) (by assumption) ?_
          rotate_left
          · (intro w hSw; (try dsimp only at hSw); go_simp; try with_reducible rfl)
          try simp only [Act.put, List.setIfInBounds_toArray, List.set_cons_zero, List.set_cons_succ]
          refine wpAnyH_take (i := 15) (oi := Oper.mk _ _ _ _ _ _) (v := ?_) rfl (by kernel_rfl) (by kernel_rfl) (by kernel_rfl) (fun _ _ _ h => h) (Or.inl ⟨by rfl, ?_⟩) (by assumption) ?_
          rotate_left
          · (intro w hSw; (try dsimp only at hSw); go_simp; try with_reducible rfl)
          try simp only [Act.put, List.setIfInBounds_toArray, List.set_cons_zero, List.set_cons_succ]
          refine wpAnyH_take (i := 16) (oi := Oper.mk _ _ _ _ _ _) (v := ?_) rfl (by kernel_rfl) (by kernel_rfl) (by kernel_rfl) (fun _ _ _ h => h) (Or.inl ⟨by rfl, ?_⟩) (by assumption) ?_
          rotate_left
          · (intro w hSw; (try dsimp only at hSw); go_simp; try with_reducible rfl)
          try simp only [Act.put, List.setIfInBounds_toArray, List.set_cons_zero, List.set_cons_succ]
          refine wpAnyH_take (i := 17) (oi := Oper.mk _ _ _ _ _ _) (v := ?_) rfl (by kernel_rfl) (by kernel_rfl) (by kernel_rfl) (fun _ _ _ h => h) (Or.inl ⟨by rfl, ?_⟩) (by assumption) ?_
          rotate_left
          · (intro w hSw; (try dsimp only at hSw); go_simp; try with_reducible rfl)
          try simp only [Act.put, List.setIfInBounds_toArray, List.set_cons_zero, List.set_cons_succ]
          refine wpAnyH_take (i := 18) (oi := Oper.mk _ _ _ _ _ _) (v := ?_) rfl (by kernel_rfl) (by kernel_rfl) (by kernel_rfl) (fun _ _ _ h => h) (Or.inl ⟨by rfl, ?_⟩) (by assumption) ?_
          rotate_left
          · (intro w hSw; (try dsimp only at hSw); go_simp; try with_reducible rfl)
          try simp only [Act.put, List.setIfInBounds_toArray, List.set_cons_zero, List.set_cons_succ]
          refine wpAnyH_take (i := 19) (oi := Oper.mk _ _ _ _ _ _) (v := ?_) rfl (by kernel_rfl) (by kernel_rfl) (by kernel_rfl) (fun _ _ _ h => h) (Or.inl ⟨by rfl, ?_⟩) (by assumption) ?_
          rotate_left
          · (intro w hSw; (try dsimp only at hSw); go_simp; try with_reducible rfl)
          try simp only [Act.put, List.setIfInBounds_toArray, List.set_cons_zero, List.set_cons_succ]
          refine wpAnyH_take (i := 20) (oi := Oper.mk _ _ _ _ _ _) (v := ?_) rfl (by kernel_rfl) (by kernel_rfl) (by kernel_rfl) (fun _ _ _ h => h) (Or.inl ⟨by rfl, ?_⟩) (by assumption) ?_
          rotate_left
          · (intro w hSw; (try dsimp only at hSw); go_simp; try with_reducible rfl)
          try simp only [Act.put, List.setIfInBounds_toArray, List.set_cons_zero, List.set_cons_succ]
          refine wpAnyH_take (i := 21) (oi := Oper.mk _ _ _ _ _ _) (v := ?_) rfl (by kernel_rfl) (by kernel_rfl) (by kernel_rfl) (fun _ _ _ h => h) (Or.inl ⟨by rfl, ?_⟩) (by assumption) ?_
          rotate_left
          · (intro w hSw; (try dsimp only at hSw); go_simp; try with_reducible rfl)
          try simp only [Act.put, List.setIfInBounds_toArray, List.set_cons_zero, List.set_cons_succ]
          refine wpAnyH_take (i := 22) (oi := Oper.mk _ _ _ _ _ _) (v := ?_) rfl (by kernel_rfl) (by kernel_rfl) (by kernel_rfl) (fun _ _ _ h => h) (Or.inl ⟨by rfl, ?_⟩) (by assumption) ?_
          rotate_left
          · (intro w hSw; (try dsimp only at hSw); go_simp; try with_reducible rfl)
          try simp only [Act.put, List.setIfInBounds_toArray, List.set_cons_zero, List.set_cons_succ]
          refine wpAnyH_take (i := 24) (oi := Oper.mk _ _ _ _ _ _) (v := ?_) rfl (by kernel_rfl) (by kernel_rfl) (by kernel_rfl) (fun _ _ _ h => h) (Or.inl ⟨by rfl, ?_⟩) (by assumption) ?_
          rotate_left
          · (intro w hSw; (try dsimp only at hSw); go_simp; try with_reducible rfl)
          try simp only [Act.put, List.setIfInBounds_toArray, List.set_cons_zero, List.set_cons_succ]
          refine wpAnyH_take (i := 25) (oi := Oper.mk _ _ _ _ _ _) (v := ?_) rfl (by kernel_rfl) (by kernel_rfl) (by kernel_rfl) (fun _ _ _ h => h) (Or.inl ⟨by rfl, ?_⟩) (by assumption) ?_
          rotate_left
          · (intro w hSw; (try dsimp only at hSw); go_simp; try with_reducible rfl)
          try simp only [Act.put, List.setIfInBounds_toArray, List.set_cons_zero, List.set_cons_succ]
          refine wpAnyH_take (i := 26) (oi := Oper.mk _ _ _ _ _ _) (v := ?_) rfl (by kernel_rfl) (by kernel_rfl) (by kernel_rfl) (fun _ _ _ h => h) (Or.inl ⟨by rfl, ?_⟩) (by assumption) ?_
          rotate_left
          · (intro w hSw; (try dsimp only at hSw); go_simp; try with_reducible rfl)
          try simp only [Act.put, List.setIfInBounds_toArray, List.set_cons_zero, List.set_cons_succ]
          refine wpAnyH_take (i := 27) (oi := Oper.mk _ _ _ _ _ _) (v := ?_) rfl (by kernel_rfl) (by kernel_rfl) (by kernel_rfl) (fun _ _ _ h => h) (Or.inl ⟨by rfl, ?_⟩) (by assumption) ?_
          rotate_left
          · (intro w hSw; (try dsimp only at hSw); go_simp; try with_reducible rfl)
          try simp only [Act.put, List.setIfInBounds_toArray, List.set_cons_zero, List.set_cons_succ]
          refine wpAnyH_ready (rs := [23]) (by kernel_rfl) (by simp) ?_
          refine AllReadyH.cons (o := Oper.mk _ _ _ _ _ _) rfl (fun K hK => ?_) AllReadyH.nil
          go_simp
          go_wp2_with (go_at_call 14; refine (HIs.out _ (HOn.out _ HD_wa.out) HS.out HS2.out).mono ?_; rintro e wb ⟨rfl, hbN⟩; have HD_wb := Lib.hid (HD_wa.out.trans (hbN.mono HD_wa.out.size)))
          refine hK.out _ _ (HSt.out _ HD_wb.out) (fun hHeld => ?_)
          clear hK K
          try simp only [Act.put, List.setIfInBounds_toArray, List.set_cons_zero, List.set_cons_succ]
          clear hbN
          refine wpAnyH_ready (rs := [28]) (by kernel_rfl) (by simp) ?_
          refine AllReadyH.cons (o := Oper.mk _ _ _ _ _ _) rfl (fun K hK => ?_) AllReadyH.nil
          go_simp
          go_wp2_with (go_at_call 15; refine (HrIs.out _ (HOn.out _ HD_wb.out) HS.out HS2.out).mono ?_; rintro e wc ⟨rfl, hbN⟩; have HD_wc := Lib.hid (HD_wb.out.trans (hbN.mono HD_wb.out.size)))
          refine hK.out _ _ (HSt.out _ HD_wc.out) (fun hHeld => ?_)
          clear hK K
          try simp only [Act.put, List.setIfInBounds_toArray, List.set_cons_zero, List.set_cons_succ]
          clear hbN
          refine wpAnyH_take (i := 29) (oi := Oper.mk _ _ _ _ _ _) (v := ?_) rfl (by kernel_rfl) (by kernel_rfl) (by kernel_rfl) (fun _ _ _ h => h) (Or.inl ⟨by rfl, ?_⟩) (by assumption) ?_
          rotate_left
          · (intro w hSw; (try dsimp only at hSw); go_simp; try with_reducible rfl)
          try simp only [Act.put, List.setIfInBounds_toArray, List.set_cons_zero, List.set_cons_succ]
          refine wpAnyH_take (i := 30) (oi := Oper.mk _ _ _ _ _ _) (v := ?_) rfl (by kernel_rfl) (by kernel_rfl) (by kernel_rfl) (fun _ _ _ h => h) (Or.inl ⟨by rfl, ?_⟩) (by assumption) ?_
          rotate_left
          · (intro w hSw; (try dsimp only at hSw); go_simp; try with_reducible rfl)
          try simp only [Act.put, List.setIfInBounds_toArray, List.set_cons_zero, List.set_cons_succ]
          refine wpAnyH_take (i := 31) (oi := Oper.mk _ _ _ _ _ _) (v := ?_) rfl (by kernel_rfl) (by kernel_rfl) (by kernel_rfl) (fun _ _ _ h => h) (Or.inl ⟨by rfl, ?_⟩) (by assumption) ?_
          rotate_left
          · (intro w hSw; (try dsimp only at hSw); go_simp; try with_reducible rfl)
          try simp only [Act.put, List.setIfInBounds_toArray, List.set_cons_zero, List.set_cons_succ]
          refine wpAnyH_take (i := 32) (oi := Oper.mk _ _ _ _ _ _) (v := ?_) rfl (by kernel_rfl) (by kernel_rfl) (by kernel_rfl) (fun _ _ _ h => h) (Or.inl ⟨by rfl, ?_⟩) (by assumption) ?_
          rotate_left
          · (intro w hSw; (try dsimp only at hSw); go_simp; try with_reducible rfl)
          try simp only [Act.put, List.setIfInBounds_toArray, List.set_cons_zero, List.set_cons_succ]
          refine wpAnyH_take (i := 33) (oi := Oper.mk _ _ _ _ _ _) (v := ?_) rfl (by kernel_rfl) (by kernel_rfl) (by kernel_rfl) (fun _ _ _ h => h) (Or.inl ⟨by rfl, ?_⟩) (by assumption) ?_
          rotate_left
          · (intro w hSw; (try dsimp only at hSw); go_simp; try with_reducible rfl)
          try simp only [Act.put, List.setIfInBounds_toArray, List.set_cons_zero, List.set_cons_succ]
          refine wpAnyH_take (i := 35) (oi := Oper.mk _ _ _ _ _ _) (v := ?_) rfl (by kernel_rfl) (by kernel_rfl) (by kernel_rfl) (fun _ _ _ h => h) (Or.inl ⟨by rfl, ?_⟩) (by assumption) ?_
          rotate_left
          · (intro w hSw; (try dsimp only at hSw); go_simp; try with_reducible rfl)
          try simp only [Act.put, List.setIfInBounds_toArray, List.set_cons_zero, List.set_cons_succ]
          refine wpAnyH_take (i := 36) (oi := Oper.mk _ _ _ _ _ _) (v := ?_) rfl (by kernel_rfl) (by kernel_rfl) (by kernel_rfl) (fun _ _ _ h => h) (Or.inl ⟨by rfl, ?_⟩) (by assumption) ?_
          rotate_left
          · (intro w hSw; (try dsimp only at hSw); go_simp; try with_reducible rfl)
          try simp only [Act.put, List.setIfInBounds_toArray, List.set_cons_zero, List.set_cons_succ]
          refine wpAnyH_ready (rs := [34]) (by kernel_rfl) (by simp) ?_
          refine AllReadyH.cons (o := Oper.mk _ _ _ _ _ _) rfl (fun K hK => ?_) AllReadyH.nil
          go_simp
          go_wp2_with (go_at_call 16; refine (HMy.out _ (HOn.out _ HD_wc.out) HS.out HS2.out).mono ?_; rintro e we ⟨rfl, hbN⟩; have HD_we := Lib.hid (HD_wc.out.trans (hbN.mono HD_wc.out.size)))
          refine hK.out _ _ (HSt.out _ HD_we.out) (fun hHeld => ?_)
          clear hK K
          try simp only [Act.put, List.setIfInBounds_toArray, List.set_cons_zero, List.set_cons_succ]
          clear hbN
          refine wpAnyH_ready (rs := [37]) (by kernel_rfl) (by simp) ?_
          refine AllReadyH.cons (o := Oper.mk _ _ _ _ _ _) rfl (fun K hK => ?_) AllReadyH.nil
          go_simp
          go_wp2_with (go_at_call 17; refine (HrMy.out _ (HOn.out _ HD_we.out) HS.out HS2.out).mono ?_; rintro e wf ⟨rfl, hbN⟩; have HD_wf := Lib.hid (HD_we.out.trans (hbN.mono HD_we.out.size)))
          refine hK.out _ _ (HSt.out _ HD_wf.out) (fun hHeld => ?_)
          clear hK K
          try simp only [Act.put, List.setIfInBounds_toArray, List.set_cons_zero, List.set_cons_succ]
          clear hbN
          refine wpAnyH_take (i := 38) (oi := Oper.mk _ _ _ _ _ _) (v := ?_) rfl (by kernel_rfl) (by kernel_rfl) (by kernel_rfl) (fun _ _ _ h => h) (Or.inl ⟨by rfl, ?_⟩) (by assumption) ?_
          rotate_left
          · (intro w hSw; (try dsimp only at hSw); go_simp; try with_reducible rfl)
          try simp only [Act.put, List.setIfInBounds_toArray, List.set_cons_zero, List.set_cons_succ]
          refine wpAnyH_take (i := 39) (oi := Oper.mk _ _ _ _ _ _) (v := ?_) rfl (by kernel_rfl) (by kernel_rfl) (by kernel_rfl) (fun _ _ _ h => h) (Or.inl ⟨by rfl, ?_⟩) (by assumption) ?_
          rotate_left
          · (intro w hSw; (try dsimp only at hSw); go_simp; try with_reducible rfl)
          try simp only [Act.put, List.setIfInBounds_toArray, List.set_cons_zero, List.set_cons_succ]
          refine wpAnyH_take (i := 40) (oi := Oper.mk _ _ _ _ _ _) (v := ?_) rfl (by kernel_rfl) (by kernel_rfl) (by kernel_rfl) (fun _ _ _ h => h) (Or.inl ⟨by rfl, ?_⟩) (by assumption) ?_
          rotate_left
          · (intro w hSw; (try dsimp only at hSw); go_simp; try with_reducible rfl)
          try simp only [Act.put, List.setIfInBounds_toArray, List.set_cons_zero, List.set_cons_succ]
          refine wpAnyH_take (i := 41) (oi := Oper.mk _ _ _ _ _ _) (v := ?_) rfl (by kernel_rfl) (by kernel_rfl) (by kernel_rfl) (fun _ _ _ h => h) (Or.inl ⟨by rfl, ?_⟩) (by assumption) ?_
          rotate_left
          · (intro w hSw; (try dsimp only at hSw); go_simp; try with_reducible rfl)
          try simp only [Act.put, List.setIfInBounds_toArray, List.set_cons_zero, List.set_cons_succ]
          refine wpAnyH_take (i := 43) (oi := Oper.mk _ _ _ _ _ _) (v := ?_) rfl (by kernel_rfl) (by kernel_rfl) (by kernel_rfl) (fun _ _ _ h => h) (Or.inl ⟨by rfl, ?_⟩) (by assumption) ?_
          rotate_left
          · (intro w hSw; (try dsimp only at hSw); go_simp; try with_reducible rfl)
          try simp only [Act.put, List.setIfInBounds_toArray, List.set_cons_zero, List.set_cons_succ]
          refine wpAnyH_ready (rs := [42]) (by kernel_rfl) (by simp) ?_
          refine AllReadyH.cons (o := Oper.mk _ _ _ _ _ _) rfl (fun K hK => ?_) AllReadyH.nil
          go_simp
          go_wp2_with (go_at_call 18; refine (HPl.out _ HS.out).mono ?_; rintro e wg ⟨P1, p1, P2, p2, rfl, hp, hbN⟩; have HD_wg := Lib.hid (HD_wf.out.trans (hbN.mono HD_wf.out.size)); have HP1 := Lib.hid hp)
          refine hK.out _ _ (HSt.out _ HD_wg.out) (fun hHeld => ?_)
          clear hK K
          try simp only [Act.put, List.setIfInBounds_toArray, List.set_cons_zero, List.set_cons_succ]
          clear hbN
          clear hp
          refine wpAnyH_ready (rs := [44]) (by kernel_rfl) (by simp) ?_
          refine AllReadyH.cons (o := Oper.mk _ _ _ _ _ _) rfl (fun K hK => ?_) AllReadyH.nil
          go_simp
          go_wp2_with (go_at_call 19; refine (HrPl.out _ HS.out).mono ?_; rintro e wh ⟨R1, r1, R2, r2, rfl, hp, hbN⟩; have HD_wh := Lib.hid (HD_wg.out.trans (hbN.mono HD_wg.out.size)); have HP2 := Lib.hid hp; have HP3 := Lib.hid (HP1.out.on hbN))
          refine hK.out _ _ (HSt.out _ HD_wh.out) (fun hHeld => ?_)
          clear hK K
          try simp only [Act.put, List.setIfInBounds_toArray, List.set_cons_zero, List.set_cons_succ]
          clear hbN
          clear hp
          refine wpAnyH_ready (rs := [45]) (by kernel_rfl) (by simp) ?_
          refine AllReadyH.cons (o := Oper.mk _ _ _ _ _ _) rfl (fun K hK => ?_) AllReadyH.nil
          go_simp
          go_wp2_with (go_at_call 13; refine (HPP.out _ P1 p1 P2 p2 R1 r1 R2 r2 HP3.out HP2.out).mono ?_; rintro e wi ⟨rfl, hbN⟩; have HD_wi := Lib.hid (HD_wh.out.trans (hbN.mono HD_wh.out.size)))
          refine hK.out _ _ (HSt.out _ HD_wi.out) (fun hHeld => ?_)
          clear hK K
          try simp only [Act.put, List.setIfInBounds_toArray, List.set_cons_zero, List.set_cons_succ]
          clear hbN
          refine wpAnyH_take (i := 46) (oi := Oper.mk _ _ _ _ _ _) (v := ?_) rfl (by kernel_rfl) (by kernel_rfl) (by kernel_rfl) (fun _ _ _ h => h) (Or.inl ⟨by rfl, ?_⟩) (by assumption) ?_
          rotate_left
          · (intro w hSw; (try dsimp only at hSw); go_simp; try with_reducible rfl)
          try simp only [Act.put, List.setIfInBounds_toArray, List.set_cons_zero, List.set_cons_succ]
          refine wpAnyH_take (i := 47) (oi := Oper.mk _ _ _ _ _ _) (v := ?_) rfl (by kernel_rfl) (by kernel_rfl) (by kernel_rfl) (fun _ _ _ h => h) (Or.inl ⟨by rfl, ?_⟩) (by assumption) ?_
          rotate_left
          · (intro w hSw; (try dsimp only at hSw); go_simp; try with_reducible rfl)
          try simp only [Act.put, List.setIfInBounds_toArray, List.set_cons_zero, List.set_cons_succ]
          refine wpAnyH_take (i := 48) (oi := Oper.mk _ _ _ _ _ _) (v := ?_) rfl (by kernel_rfl) (by kernel_rfl) (by kernel_rfl) (fun _ _ _ h => h) (Or.inl ⟨by rfl, ?_⟩) (by assumption) ?_
          rotate_left
          · (intro w hSw; (try dsimp only at hSw); go_simp; try with_reducible rfl)
          try simp only [Act.put, List.setIfInBounds_toArray, List.set_cons_zero, List.set_cons_succ]
          refine wpAnyH_take (i := 49) (oi := Oper.mk _ _ _ _ _ _) (v := ?_) rfl (by kernel_rfl) (by kernel_rfl) (by kernel_rfl) (fun _ _ _ h => h) (Or.inl ⟨by rfl, ?_⟩) (by assumption) ?_
          rotate_left
          · (intro w hSw; (try dsimp only at hSw); go_simp; try with_reducible rfl)
          try simp only [Act.put, List.setIfInBounds_toArray, List.set_cons_zero, List.set_cons_succ]
          refine wpAnyH_take (i := 51) (oi := Oper.mk _ _ _ _ _ _) (v := ?_) rfl (by kernel_rfl) (by kernel_rfl) (by kernel_rfl) (fun _ _ _ h => h) (Or.inl ⟨by rfl, ?_⟩) (by assumption) ?_
          rotate_left
          · (intro w hSw; (try dsimp only at hSw); go_simp; try with_reducible rfl)
          try simp only [Act.put, List.setIfInBounds_toArray, List.set_cons_zero, List.set_cons_succ]
          refine wpAnyH_take (i := 52) (oi := Oper.mk _ _ _ _ _ _) (v := ?_) rfl (by kernel_rfl) (by kernel_rfl) (by kernel_rfl) (fun _ _ _ h => h) (Or.inl ⟨by rfl, ?_⟩) (by assumption) ?_
          rotate_left
          · (intro w hSw; (try dsimp only at hSw); go_simp; try with_reducible rfl)
          try simp only [Act.put, List.setIfInBounds_toArray, List.set_cons_zero, List.set_cons_succ]
          refine wpAnyH_ready (rs := [50]) (by kernel_rfl) (by simp) ?_
          refine AllReadyH.cons (o := Oper.mk _ _ _ _ _ _) rfl (fun K hK => ?_) AllReadyH.nil
          go_simp
          go_wp2_with (go_at_call 20; refine (HVs.out _ (HOn.out _ HD_wi.out)).mono ?_; rintro e wj ⟨rfl, hbN⟩; have HD_wj := Lib.hid (HD_wi.out.trans (hbN.mono HD_wi.out.size)))
          refine hK.out _ _ (HSt.out _ HD_wj.out) (fun hHeld => ?_)
          clear hK K
          try simp only [Act.put, List.setIfInBounds_toArray, List.set_cons_zero, List.set_cons_succ]
          clear hbN
          refine wpAnyH_ready (rs := [53]) (by kernel_rfl) (by simp) ?_
          refine AllReadyH.cons (o := Oper.mk _ _ _ _ _ _) rfl (fun K hK => ?_) AllReadyH.nil
          go_simp
          go_wp2_with (go_at_call 13; refine (HrVs.out _ (HOn.out _ HD_wj.out)).mono ?_; rintro e wk ⟨rfl, hbN⟩; have HD_wk := Lib.hid (HD_wj.out.trans (hbN.mono HD_wj.out.size)))
          refine hK.out _ _ (HSt.out _ HD_wk.out) (fun hHeld => ?_)
          clear hK K
          try simp only [Act.put, List.setIfInBounds_toArray, List.set_cons_zero, List.set_cons_succ]
          clear hbN
          refine wpAnyH_take (i := 54) (oi := Oper.mk _ _ _ _ _ _) (v := ?_) rfl (by kernel_rfl) (by kernel_rfl) (by kernel_rfl) (fun _ _ _ h => h) (Or.inl ⟨by rfl, ?_⟩) (by assumption) ?_
          rotate_left
          · (intro w hSw; (try dsimp only at hSw); go_simp; try with_reducible rfl)
          try simp only [Act.put, List.setIfInBounds_toArray, List.set_cons_zero, List.set_cons_succ]
          refine wpAnyH_take (i := 55) (oi := Oper.mk _ _ _ _ _ _) (v := ?_) rfl (by kernel_rfl) (by kernel_rfl) (by kernel_rfl) (fun _ _ _ h => h) (Or.inl ⟨by rfl, ?_⟩) (by assumption) ?_
          rotate_left
          · (intro w hSw; (try dsimp only at hSw); go_simp; try with_reducible rfl)
          try simp only [Act.put, List.setIfInBounds_toArray, List.set_cons_zero, List.set_cons_succ]
          refine wpAnyH_take (i := 56) (oi := Oper.mk _ _ _ _ _ _) (v := ?_) rfl (by kernel_rfl) (by kernel_rfl) (by kernel_rfl) (fun _ _ _ h => h) (Or.inl ⟨by rfl, ?_⟩) (by assumption) ?_
          rotate_left
          · (intro w hSw; (try dsimp only at hSw); go_simp; try with_reducible rfl)
          try simp only [Act.put, List.setIfInBounds_toArray, List.set_cons_zero, List.set_cons_succ]
          refine wpAnyH_ready (rs := [57]) (by kernel_rfl) (by simp) ?_
          refine AllReadyH.cons (o := Oper.mk _ _ _ _ _ _) rfl (fun K hK => ?_) AllReadyH.nil
          go_simp
          go_wp2_with (go_at_call 6; refine (HW.out _ (HOn.out _ HD_wk.out)).mono ?_; rintro e wl ⟨rfl, hbN⟩; have HD_wl := Lib.hid (HD_wk.out.trans (hbN.mono HD_wk.out.size)))
          refine hK.out _ _ (HSt.out _ HD_wl.out) (fun hHeld => ?_)
          clear hK K
          try simp only [Act.put, List.setIfInBounds_toArray, List.set_cons_zero, List.set_cons_succ]
          clear hbN
          refine wpAnyH_take (i := 58) (oi := Oper.mk _ _ _ _ _ _) (v := ?_) rfl (by kernel_rfl) (by kernel_rfl) (by kernel_rfl) (fun _ _ _ h => h) (Or.inl ⟨by rfl, ?_⟩) (by assumption) ?_
          rotate_left
          · (intro w hSw; (try dsimp only at hSw); go_simp; try with_reducible rfl)
          try simp only [Act.put, List.setIfInBounds_toArray, List.set_cons_zero, List.set_cons_succ]
          refine wpAnyH_take (i := 59) (oi := Oper.mk _ _ _ _ _ _) (v := ?_) rfl (by kernel_rfl) (by kernel_rfl) (by kernel_rfl) (fun _ _ _ h => h) (Or.inl ⟨by rfl, ?_⟩) (by assumption) ?_
          rotate_left
          · (intro w hSw; (try dsimp only at hSw); go_simp; try with_reducible rfl)
          try simp only [Act.put, List.setIfInBounds_toArray, List.set_cons_zero, List.set_cons_succ]
          refine wpAnyH_done (by kernel_rfl) ?_ _
          have HF := Lib.hid (HOn.out _ HD_wl.out)
          go_wp2_with fail
          go_ret
          exact ⟨rfl, HF.out⟩
end Go.Proofs.YtfcmpfaonpnbaaaGreatDoor.Vl
/- ValueTells: for any input the law answers true, and each argument reads as before: the tied card. -/
namespace Go.Proofs.YtfcmpfaonpnbaaaGreatDoor.valueTells
open Go.RowKit Go.ChangeShapes Go.WideShapes Go.ChangeAt Go.WideMaps Go.WideElems
open Go.ChangeMaps (setBlock shut_map_nil open_string shut_string keptBut_setBlock frozen?_setBlock heap_setBlock_same)

theorem gTabType : (Tryz.prog.globals[0]?).map (·.type) = some 133 := by kernel_rfl
theorem cellsTab : Tryz.prog.cellsOf 133 = 20 := by kernel_rfl
theorem cellsU64 : Tryz.prog.cellsOf 116 = 1 := by kernel_rfl
theorem tabOk {W : World} (h : laidMetH Tryz.prog Rows.valueTellsRow.laid W) : TabOk W := by
  have h2 := h.filter (fun x => x.1 == "internal/strconv.uint64pow10")
  rw [MakeChecks.laidMetH_plain _ _ _ (by kernel_rfl)] at h2
  exact Lib.tabIs_of_head (rest := []) gTab gTabType Tryz.underlying133 Tryz.underlying116 cellsU64 cellsTab h2
theorem cellsInt : Tryz.prog.cellsOf 3 = 1 := by kernel_rfl

set_option maxRecDepth 100000 in
theorem contract (H : Type) (enc : TypeId × Value → H) (W : World) (base : Nat) (args : Array Value) (ds gs : List (DataW H)) (before : List MemPlace)
    (hval : ∀ (j : Nat) t v, Tryz.f3.params[j]? = some t → args[j]? = some v → Value.okWide Tryz.prog W .any base t v)
    (hW : DataW.Whole enc Tryz.prog Tryz.f3.params.toList Rows.valueTellsSpec.vars false W args.toList ds gs before) (hR : (DataW.weightsEach Tryz.prog (Tryz.f3.params.toList ++ Rows.valueTellsSpec.plain.varTypes Tryz.prog) (ds ++ gs)).all (· ≤ reachBytes) = true) (hL : laidMetH Tryz.prog Rows.valueTellsRow.laid W) :
    Calls Tryz.prog 3 args W fun e W' => ∃ v, e = .returned v ∧ Rows.valueTellsSpec.post enc Tryz.prog Tryz.f3 false true false false W args v W' := by
  have hW' := hW
  obtain ⟨p, q, hA0, hV, rfl, hfz, hnd⟩ := hW
  have hA : DataW.TrodAll enc Tryz.prog W 0 (fun _ => true) true Tryz.f3.params.toList args.toList ds p := hA0
  have hfit : ∀ (j : Nat) t d, Tryz.f3.params.toList[j]? = some t → ds[j]? = some d → Fits Tryz.prog t d := fun j t d h1 h2 => fits_each (fun m hm => of_decide_eq_true (List.all_eq_true.1 hR m hm)) j t d (by rw [List.getElem?_append_left (List.getElem?_eq_some_iff.1 h1).1]; exact h1) (by rw [List.getElem?_append_left (List.getElem?_eq_some_iff.1 h2).1]; exact h2)
  rw [Tryz.params3] at hfit
  rw [Tryz.params3] at hA hval
  obtain ⟨v0, vs0, d0, ds0, p0, q0, hargs, rfl, rfl, h0, r0⟩ := trodAll_cons hA
  obtain ⟨v1, vs1, d1, ds1, p1, q1, rfl, rfl, rfl, h1, r1⟩ := trodAll_cons r0
  obtain ⟨v2, vs2, d2, ds2, p2, q2, rfl, rfl, rfl, h2, r2⟩ := trodAll_cons r1
  obtain ⟨v3, vs3, d3, ds3, p3, q3, rfl, rfl, rfl, h3, r3⟩ := trodAll_cons r2
  obtain ⟨v4, vs4, d4, ds4, p4, q4, rfl, rfl, rfl, h4, r4⟩ := trodAll_cons r3
  obtain ⟨v5, vs5, d5, ds5, p5, q5, rfl, rfl, rfl, h5, r5⟩ := trodAll_cons r4
  obtain ⟨v6, vs6, d6, ds6, p6, q6, rfl, rfl, rfl, h6, r6⟩ := trodAll_cons r5
  obtain ⟨rfl, rfl, rfl⟩ := trodAll_nil r6
  obtain rfl : args = #[v0, v1, v2, v3, v4, v5, v6] := by cases args; simp_all
  obtain ⟨g0, A0_0, c0_0, A0_1, c0_1, A0_2, c0_2, rfl, hg0⟩ := Dt.open_sig (hval 0 26 v0 rfl rfl) h0 (hfit 0 26 d0 rfl rfl)
  obtain ⟨g1, A1_0, c1_0, A1_1, c1_1, rfl, hg1⟩ := Dt.open_world (hval 1 30 v1 rfl rfl) h1 (hfit 1 30 d1 rfl rfl)
  obtain ⟨g2, A2_0, c2_0, A2_1, c2_1, rfl, hg2⟩ := Dt.open_world (hval 2 30 v2 rfl rfl) h2 (hfit 2 30 d2 rfl rfl)
  obtain ⟨a3, rfl, rfl, rfl, wa3⟩ := Go.ChangeShapes.open_int Tryz.underlying3 (hval 3 3 v3 rfl rfl) h3
  obtain ⟨A4, cap4, zs4, rfl, hc4, hz4, hl4, hm4⟩ := open_ints_all Tryz.underlying27 Tryz.underlying3 cellsInt (hval 4 27 v4 rfl rfl) h4
  unfold maxLen at hm4
  obtain ⟨a5, rfl, rfl, rfl, wa5⟩ := Go.ChangeShapes.open_int Tryz.underlying3 (hval 5 3 v5 rfl rfl) h5
  obtain ⟨a6, rfl, rfl, rfl, wa6⟩ := Go.ChangeShapes.open_int Tryz.underlying3 (hval 6 3 v6 rfl rfl) h6
  refine (Vl.valueTells_all (w := W) hg0 hg1 hg2 a3 zs4 A4 cap4 a5 a6 (bounds_i64 wa3) hc4 hz4 hl4 hm4 (bounds_i64 wa5) (bounds_i64 wa6) (tabOk hL)).mono fun e W' ⟨he, hb⟩ => ⟨_, he, ?_⟩
  exact law_post laidOut (by kernel_rfl) rfl Tryz.underlying4 rfl rfl hW' hb

noncomputable def laidWorld (os : Os) : World := World.doorLaid Tryz.prog 24 os
theorem laid_met (os : Os) : laidMetH Tryz.prog Rows.valueTellsRow.laid ((laidWorld os).forCall (fun _ _ => 0) ⟨#[], #[.agg #[.slice none 0 0, .slice none 0 0, .slice none 0 0], .agg #[.slice none 0 0, .slice none 0 0], .agg #[.slice none 0 0, .slice none 0 0], .int .i64 0, .slice none 0 0, .int .i64 0, .int .i64 0], []⟩).memory :=
  laidMetH_of_parts3 (fuel := 8) (laidMet_of_run' 8 (by kernel_rfl) (by kernel_rfl)) (by kernel_rfl) (by kernel_rfl)
theorem reads (os : Os) {H : Type} (enc : TypeId × Value → H) : ∃ x, DataW.whole enc Tryz.prog ((laidWorld os).forCall (fun _ _ => 0) ⟨#[], #[.agg #[.slice none 0 0, .slice none 0 0, .slice none 0 0], .agg #[.slice none 0 0, .slice none 0 0], .agg #[.slice none 0 0, .slice none 0 0], .int .i64 0, .slice none 0 0, .int .i64 0, .int .i64 0], []⟩).memory Tryz.f3.params.toList Rows.valueTellsSpec.vars false #[Value.agg #[.slice none 0 0, .slice none 0 0, .slice none 0 0], .agg #[.slice none 0 0, .slice none 0 0], .agg #[.slice none 0 0, .slice none 0 0], .int .i64 0, .slice none 0 0, .int .i64 0, .int .i64 0].toList 8 = some ([.agg [.nil, .nil, .nil], .agg [.nil, .nil], .agg [.nil, .nil], .lit (.int .i64 0), .nil, .lit (.int .i64 0), .lit (.int .i64 0)], [], x) :=
  ⟨[], by kernel_rfl⟩

set_option maxRecDepth 100000 in
theorem lifted (os : Os) (started : os.Started) (H : Type) (enc : TypeId × Value → H) (F : Stop.Interp) :
    ReturnsInHanded {} Tryz.checked os 3 .any ((OpenSpec.ofChange Rows.valueTellsSpec).preRow enc Tryz.prog Tryz.f3 Rows.valueTellsRow.domain false Rows.valueTellsRow.laid) (((OpenSpec.ofChange Rows.valueTellsSpec).at F).post enc Tryz.prog Tryz.f3 false true false false) := by
  obtain ⟨places, hx⟩ := reads os enc
  refine returnsInHanded_of_row (C := Tryz.checked) (s := OpenSpec.ofChange Rows.valueTellsSpec) own started (by kernel_rfl) Tryz.func3
    (witness_row_at (enc := enc) (C := Tryz.checked) false (laidWorld os) #[.agg #[.slice none 0 0, .slice none 0 0, .slice none 0 0], .agg #[.slice none 0 0, .slice none 0 0], .agg #[.slice none 0 0, .slice none 0 0], .int .i64 0, .slice none 0 0, .int .i64 0, .int .i64 0] rfl (by kernel_rfl) (by kernel_rfl) (by kernel_rfl)
      (OpenSpec.preRow_of_cond 8 hx (by kernel_rfl) (fun k hk => by cases hk) (by kernel_rfl) (laid_met os))) ?_
  intro W base args ds gs before hval hW _ _ hR hL _ _
  exact contract H enc W base args ds gs before hval hW hR hL

theorem said : Rows.ValueTellsSaid :=
  OpenClaim.holds_of_cond 3 Tryz.f3 rfl rfl rfl rfl rfl rfl rfl ⟨rfl, rfl, rfl, rfl, rfl⟩ rfl rfl rfl rfl rfl (by kernel_rfl) Tryz.func3 (by kernel_rfl)
    (of_decide_eq_true (by kernel_rfl)) (by unfold Func.isWrapper; first | (rw [if_pos (by decide +kernel)]; kernel_rfl) | (rw [if_neg (by decide +kernel)]; exact ⟨rfl, rfl⟩))
    (fun os started H enc _ F => by rw [OpenClaim.pre_eq_preRow]; exact lifted os started H enc F)

theorem plain (f : FuncId) (fn : Func) (hf : Tryz.pinned.checked.prog.funcNamed "gantry/gantrylaw09.ValueTells" = some f) (hfn : Tryz.pinned.checked.prog.funcs[f]? = some fn) :
    false = Tryz.pinned.checked.prog.looks [] ∧ ∀ (j : Nat) t, fn.params[j]? = some t → Tryz.pinned.checked.prog.wantsStandIn t = false := by
  obtain rfl : f = 3 := Option.some.inj ((show Tryz.prog.funcNamed "gantry/gantrylaw09.ValueTells" = some 3 by kernel_rfl).symm.trans hf) |>.symm
  obtain rfl : fn = Tryz.f3 := (Option.some.inj (Tryz.func3.symm.trans hfn)).symm
  refine ⟨by kernel_rfl, fun j t ht => ?_⟩
  have hm := Array.mem_of_getElem? ht
  have hall : (Tryz.f3.params.toList.all fun u => !Tryz.prog.wantsStandIn u) = true := by kernel_rfl
  exact (show Tryz.prog.wantsStandIn t = false by simpa using List.all_eq_true.1 hall t (by simpa using hm))

/-- the card -/
theorem card : Rows.ValueTellsCardSaid :=
  Claim7.holds_tied_plain_at .later [] _ _ _ _ said (fun _ h => by cases h) (by kernel_rfl) (fun _ h => by cases h) valueTells_row_tie rfl ⟨rfl, rfl⟩ (by kernel_rfl) rfl plain (by kernel_rfl)
end Go.Proofs.YtfcmpfaonpnbaaaGreatDoor.valueTells
