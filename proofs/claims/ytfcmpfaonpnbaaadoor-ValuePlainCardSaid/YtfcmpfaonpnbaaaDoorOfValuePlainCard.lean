import Derived.Test.YtfcmpfaonpnbaaaDoorMt
import Derived.Test.YtfcmpfaonpnbaaaDoorMf
import Derived.Test.YtfcmpfaonpnbaaaDoorMo
import Derived.Test.YtfcmpfaonpnbaaaDoorMn
import Derived.Test.YtfcmpfaonpnbaaaDoorCards
import Derived.Test.YtfcmpfaonpnbaaaDoorTie
import Derived.Test.YtfcmpfaonpnbaaaDoorMa
/- merged by wip/merge.py from: ValLawP ValuePlainCard -/
/- The plain world may be just when its signature may; what is asked of it answers 0: the walk of the law. -/
namespace Go.Proofs.YtfcmpfaonpnbaaaDoor.Vl
open Go.RowKit Go.Proofs.YtfcmpfaonpnbaaaDoor.Dt Go.Proofs.YtfcmpfaonpnbaaaDoor.Sg Go.Proofs.YtfcmpfaonpnbaaaDoor.Gr

/-- memory while a law is asked: the signature's box, a world's box, all that was there -/
structure PB (w wx W : World) (xb : Nat) (u0 u1 u2 v0 v1 : Value) : Prop where
  below : Below w.heap.size w W
  belowx : Below wx.heap.size wx W
  gw : GW W w.heap.size xb u0 u1 u2 v0 v1
theorem PB.on {w wx W W' : World} {xb : Nat} {u0 u1 u2 v0 v1 : Value} (h : PB w wx W xb u0 u1 u2 v0 v1) (hb : Below W.heap.size W W') : PB w wx W' xb u0 u1 u2 v0 v1 :=
  ⟨h.below.trans (hb.mono h.below.size), h.belowx.trans (hb.mono h.belowx.size), h.gw.on hb⟩
theorem PB.five {w wx W : World} {xb : Nat} {u0 u1 u2 v0 v1 : Value} (h : PB w wx W xb u0 u1 u2 v0 v1) :
    W.cell? ⟨w.heap.size, 0, none⟩ = some u0 ∧ W.cell? ⟨w.heap.size, 1, none⟩ = some u1 ∧ W.cell? ⟨w.heap.size, 2, none⟩ = some u2 ∧ W.cell? ⟨xb, 0, none⟩ = some v0 ∧ W.cell? ⟨xb, 1, none⟩ = some v1 := ⟨h.gw.g0, h.gw.g1, h.gw.g2, h.gw.v0, h.gw.v1⟩
theorem pb_made {w w3 : World} {u0 u1 u2 : Value} (v0 v1 : Value) (t : TypeId) (hb : Below w.heap.size w w3) (p0 : w3.cell? ⟨w.heap.size, 0, none⟩ = some u0) (p1 : w3.cell? ⟨w.heap.size, 1, none⟩ = some u1) (p2 : w3.cell? ⟨w.heap.size, 2, none⟩ = some u2) (hlt : w.heap.size < w3.heap.size) :
    PB w w3 (w3.alloc (.cells #[v0, v1] t)) w3.heap.size u0 u1 u2 v0 v1 := by
  have B := (Below.refl w3.heap.size w3).alloc (Nat.le_refl _) (.cells #[v0, v1] t)
  obtain ⟨q0, q1, q2⟩ := three_cells (w' := w3.alloc (.cells #[v0, v1] t)) B hlt p0 p1 p2
  exact ⟨hb.trans (B.mono hb.size), B, q0, q1, q2, by rw [World.cell?_alloc_mark]; rfl, by rw [World.cell?_alloc_mark]; rfl, by simp; omega, by simp⟩
theorem plain_check (g : Sig) : (mayW g (plainW g) = true ∧ checkE g = 0) ∨ (mayW g (plainW g) = false ∧ checkE g = 2) := by
  rw [plain_may]
  cases h : checkB g
  · exact .inr ⟨rfl, checkE_false h⟩
  · exact .inl ⟨rfl, checkE_true h⟩
set_option maxRecDepth 100000 in
set_option maxHeartbeats 3200000 in
theorem valuePlain_all {w : World} {A1 A2 A3 : Option Addr} {c1 c2 c3 : Nat} {g : Sig} (hg : SigAt w A1 c1 A2 c2 A3 c3 g) (f : Int) (l : List Int) (A : Option Addr) (c : Nat) (hf : I64 f) (hl : Cells w A (l.map (Value.int .i64))) (hli : ∀ y ∈ l, I64 y) (_ : l.length ≤ c) (_ : c ≤ 2 ^ 63 - 1) (ht : TabOk w) :
    Calls Tryd.prog 4 #[.agg #[.slice A1 g.sorts.length c1, .slice A2 g.funs.length c2, .slice A3 g.macros.length c3], .int .i64 f, .slice A l.length c] w fun e w' => e = .returned (.bool true) ∧ Below w.heap.size w w' := by
  have HB1 := Lib.hid ((Below.refl w.heap.size w).alloc (Nat.le_refl _) (.cells #[.slice A1 g.sorts.length c1, .slice A2 g.funs.length c2, .slice A3 g.macros.length c3] 26))
  have HGr := Lib.hid (great4_any (hg.on HB1.out))
  have HW := Lib.hid (fun W (hW : Below w.heap.size w W) => wakes_any W (ht.on hW))
  have HPl := Lib.hid (fun W (h : Small g) => plain_any g (by have := h.1; omega) (by have := h.2.1; omega) W A1 A2 A3 c1 c2 g.macros.length c3)
  have HMy := Lib.hid (fun W (hW : Below w.heap.size w W) (h : Small g) B1 d1 B2 d2 hx => vmay_any (d1 := d1) (d2 := d2) (B1 := B1) (B2 := B2) (x := plainW g) (hg.on hW) hx (by have := h.1; omega) (by have := h.2.1; omega) (by have := h.2.2; omega) (by have := h.1; simp [plainW]; omega))
  have HCk := Lib.hid (fun W (hW : Below w.heap.size w W) => rcheck_any (hg.on hW))
  have HAp := Lib.hid (fun W (hW : Below w.heap.size w W) (h : Small g) (hn : l.length ≤ 10) B1 d1 B2 d2 hx => apply_any (d1 := d1) (d2 := d2) (B1 := B1) (B2 := B2) (c := c) (x := plainW g) (hg.on hW) hx (by have := h.1; omega) (by have := h.2.1; omega) (by have := h.2.2; omega) (by have := h.1; simp [plainW]; omega) f hf (hl.on hW) hli (by omega))
  have HMC := Lib.hid (plain_check g)
  have HAsk := Lib.hid (ask_cases g (plainW g) f l)
  have HV := Lib.hid (plain_apply g f l)
  obtain ⟨g0, g1, g2⟩ := sig_cells w (.slice A1 g.sorts.length c1) (.slice A2 g.funs.length c2) (.slice A3 g.macros.length c3) 26
  have hz : w.heap.size < (w.alloc (.cells #[.slice A1 g.sorts.length c1, .slice A2 g.funs.length c2, .slice A3 g.macros.length c3] 26)).heap.size := by simp
  have HC := Lib.hid (fun W hW => three_cells (w' := W) (b := w.heap.size) hW hz g0 g1 g2)
  have HZ := Lib.hid hz
  clear hg ht g0 g1 g2 hz hf hl hli
  rw [HV.out] at HAp
  unfold PlainPost at HPl
  generalize mayW g (plainW g) = mv at *
  generalize checkE g = ce at *
  generalize askE g (plainW g) f l = ae at *
  generalize (plainW g).sizes.length = m1 at *
  generalize (plainW g).funs.length = m2 at *
  generalize g.sorts.length = n1 at *
  generalize g.funs.length = n2 at *
  generalize g.macros.length = n3 at *
  generalize l.length = n at *
  go_enter Tryd.func4, Tryd.ntmps4
  go_wp2_with fail
  generalize w.alloc (.cells #[.slice A1 n1 c1, .slice A2 n2 c2, .slice A3 n3 c3] 26) = w1 at *
  refine HGr.out.mono ?_
  rintro e w2 ⟨⟨gb, rfl, hsm⟩, hb2⟩
  have HB2 := Lib.hid (HB1.out.trans (hb2.mono HB1.out.size))
  obtain ⟨q0, q1, q2⟩ := HC.out w2 hb2
  have HD2 := Lib.hid hb2
  have HSm := Lib.hid hsm
  clear hb2 hsm
  cases gb with
  | true =>
    go_wp2_with fail
    refine (HW.out w2 HB2.out).mono ?_
    rintro e w3 ⟨rfl, hb3⟩
    have HB3 := Lib.hid (HB2.out.trans (hb3.mono HB2.out.size))
    clear hb3
    go_wp2_with fail
    go_ret
    exact ⟨rfl, HB3.out⟩
  | false =>
    by_cases h10 : (10 : Int) < (n : Int)
    · have h10' := decide_eq_true h10
      go_wp2_with fail
      refine (HW.out w2 HB2.out).mono ?_
      rintro e w3 ⟨rfl, hb3⟩
      have HB3 := Lib.hid (HB2.out.trans (hb3.mono HB2.out.size))
      clear hb3
      go_wp2_with fail
      go_ret
      exact ⟨rfl, HB3.out⟩
    · have h10' := decide_eq_false h10
      have HS := Lib.hid (HSm.out rfl)
      have hcall := HPl.out w2 HS.out
      go_wp2_with fail
      refine hcall.mono ?_
      rintro e w3 ⟨B1, d1, B2, d2, rfl, hx, hb3⟩
      have HB3 := Lib.hid (HB2.out.trans (hb3.mono HB2.out.size))
      have HX := Lib.hid hx
      have HPB := Lib.hid (by
        obtain ⟨q0, q1, q2⟩ := HC.out w3 (HD2.out.trans (hb3.mono HD2.out.size))
        exact pb_made (.slice B1 m1 d1) (.slice B2 m2 d2) 30 HB3.out q0 q1 q2 (Nat.lt_of_lt_of_le HZ.out (HD2.out.trans (hb3.mono HD2.out.size)).size))
      have HMy2 := Lib.hid (fun W (hP : PB w w3 W w3.heap.size (.slice A1 n1 c1) (.slice A2 n2 c2) (.slice A3 n3 c3) (.slice B1 m1 d1) (.slice B2 m2 d2)) => HMy.out W hP.below HS.out B1 d1 B2 d2 (HX.out.on hP.belowx))
      have HAp2 := Lib.hid (fun W (hP : PB w w3 W w3.heap.size (.slice A1 n1 c1) (.slice A2 n2 c2) (.slice A3 n3 c3) (.slice B1 m1 d1) (.slice B2 m2 d2)) => HAp.out W hP.below HS.out (by omega) B1 d1 B2 d2 (HX.out.on hP.belowx))
      clear hx hb3 hcall q0 q1 q2 HMy HAp HX HC HD2 HSm HPl HGr HB1 HB2 HB3
      go_upto_region 4 with fail
      generalize hxb : w3.heap.size = xb at *
      clear hxb
      generalize w3.alloc (.cells #[.slice B1 m1 d1, .slice B2 m2 d2] 30) = wk at *
      go_cut [26] from 20 to 26 (fun v W => v = .bool false ∧ PB w w3 W xb (.slice A1 n1 c1) (.slice A2 n2 c2) (.slice A3 n3 c3) (.slice B1 m1 d1) (.slice B2 m2 d2))
      case first =>
        have K0 := Lib.hid (HPB.out.on (Below.refl wk.heap.size wk).drew)
        refine wp_region_held_drew (S := fun W => W.cell? ⟨w.heap.size, 0, none⟩ = some (.slice A1 n1 c1) ∧ W.cell? ⟨w.heap.size, 1, none⟩ = some (.slice A2 n2 c2) ∧ W.cell? ⟨w.heap.size, 2, none⟩ = some (.slice A3 n3 c3) ∧ W.cell? ⟨xb, 0, none⟩ = some (.slice B1 m1 d1) ∧ W.cell? ⟨xb, 1, none⟩ = some (.slice B2 m2 d2)) (by kernel_rfl) (K0.out.five) (fun hHeld => ?_)
        generalize hwd : wk.drew = wd at *
        clear hwd
        refine wpAnyH_take (i := 0) (oi := Oper.mk _ _ _ _ _ _) (v := ?_) rfl (by kernel_rfl) (by kernel_rfl) (by kernel_rfl) (fun _ _ _ h => h) (Or.inl ⟨by rfl, ?_⟩) (by assumption) ?_
        rotate_left
        · (intro w hSw; (try dsimp only at hSw); go_simp; try with_reducible rfl)
        try simp only [Act.put, List.setIfInBounds_toArray, List.set_cons_zero, List.set_cons_succ]
        refine wpAnyH_take (i := 1) (oi := Oper.mk _ _ _ _ _ _) (v := ?_) rfl (by kernel_rfl) (by kernel_rfl) (by kernel_rfl) (fun _ _ _ h => h) (Or.inl ⟨by rfl, ?_⟩) (by assumption) ?_
        rotate_left
        · (intro w hSw; (try dsimp only at hSw); go_simp; try with_reducible rfl)
        try simp only [Act.put, List.setIfInBounds_toArray, List.set_cons_zero, List.set_cons_succ]
        refine wpAnyH_take (i := 3) (oi := Oper.mk _ _ _ _ _ _) (v := ?_) rfl (by kernel_rfl) (by kernel_rfl) (by kernel_rfl) (fun _ _ _ h => h) (Or.inl ⟨by rfl, ?_⟩) (by assumption) ?_
        rotate_left
        · (intro w hSw; (try dsimp only at hSw); go_simp; try with_reducible rfl)
        try simp only [Act.put, List.setIfInBounds_toArray, List.set_cons_zero, List.set_cons_succ]
        refine wpAnyH_ready (rs := [2]) (by kernel_rfl) (by simp) ?_
        refine AllReadyH.cons (o := Oper.mk _ _ _ _ _ _) rfl (fun K hK => ?_) AllReadyH.nil
        go_simp
        go_wp2_with (go_at_call 12; refine (HMy2.out _ K0.out).mono ?_; rintro e w5 ⟨rfl, hb5⟩; have K5 := Lib.hid (K0.out.on hb5))
        refine hK.out _ _ (K5.out.five) (fun hHeld => ?_)
        clear hK K
        try simp only [Act.put, List.setIfInBounds_toArray, List.set_cons_zero, List.set_cons_succ]
        clear hb5
        refine wpAnyH_ready (rs := [4]) (by kernel_rfl) (by simp) ?_
        refine AllReadyH.cons (o := Oper.mk _ _ _ _ _ _) rfl (fun K hK => ?_) AllReadyH.nil
        go_simp
        go_wp2_with (go_at_call 14; refine (HCk.out _ K5.out.below).mono ?_; rintro e w6 ⟨rfl, hb6⟩; have K6 := Lib.hid (K5.out.on hb6))
        refine hK.out _ _ (K6.out.five) (fun hHeld => ?_)
        clear hK K
        try simp only [Act.put, List.setIfInBounds_toArray, List.set_cons_zero, List.set_cons_succ]
        clear hb6
        rcases HMC.out with ⟨rfl, rfl⟩ | ⟨rfl, rfl⟩
        all_goals
          refine wpAnyH_take (i := 5) (oi := Oper.mk _ _ _ _ _ _) (v := ?_) rfl (by kernel_rfl) (by kernel_rfl) (by kernel_rfl) (fun _ _ _ h => h) (Or.inl ⟨by rfl, ?_⟩) (by assumption) ?_
          rotate_left
          · (intro w hSw; (try dsimp only at hSw); go_simp; try with_reducible rfl)
          try simp only [Act.put, List.setIfInBounds_toArray, List.set_cons_zero, List.set_cons_succ]
          refine wpAnyH_take (i := 6) (oi := Oper.mk _ _ _ _ _ _) (v := ?_) rfl (by kernel_rfl) (by kernel_rfl) (by kernel_rfl) (fun _ _ _ h => h) (Or.inl ⟨by rfl, ?_⟩) (by assumption) ?_
          rotate_left
          · (intro w hSw; (try dsimp only at hSw); go_simp; try with_reducible rfl)
          try simp only [Act.put, List.setIfInBounds_toArray, List.set_cons_zero, List.set_cons_succ]
          refine wpAnyH_done (by kernel_rfl) ?_ _
          go_wp2_with fail
          go_meet
          exact ⟨rfl, K6.out⟩
      case rest =>
        obtain ⟨rfl, hk⟩ := hcut
        have HK := Lib.hid hk
        obtain ⟨q0, q1, q2, q3, q4⟩ := hk.five
        have hcall := HAp2.out wc HK.out
        clear hk
        go_wp2_with fail
        refine hcall.mono ?_
        rintro e w5 ⟨rfl, hb5⟩
        have K5 := Lib.hid (HK.out.on hb5)
        have HW5 := Lib.hid (HW.out w5 K5.out.below)
        clear hb5 hcall q0 q1 q2 q3 q4
        rcases HAsk.out with rfl | rfl | rfl
        all_goals
          go_wp2_with fail
          refine HW5.out.mono ?_
          rintro e w6 ⟨rfl, hb6⟩
          have K6 := Lib.hid (K5.out.on hb6)
          clear hb6
          go_wp2_with fail
          go_ret
          exact ⟨rfl, K6.out.below⟩
end Go.Proofs.YtfcmpfaonpnbaaaDoor.Vl
/- ValuePlain: for any input the law answers true, and each argument reads as before: the tied card. -/
namespace Go.Proofs.YtfcmpfaonpnbaaaDoor.valuePlain
open Go.RowKit Go.ChangeShapes Go.WideShapes Go.ChangeAt Go.WideMaps Go.WideElems
open Go.ChangeMaps (setBlock shut_map_nil open_string shut_string keptBut_setBlock frozen?_setBlock heap_setBlock_same)

theorem gTabType : (Tryd.prog.globals[0]?).map (·.type) = some 132 := by kernel_rfl
theorem cellsTab : Tryd.prog.cellsOf 132 = 20 := by kernel_rfl
theorem cellsU64 : Tryd.prog.cellsOf 110 = 1 := by kernel_rfl
theorem tabOk {W : World} (h : laidMetH Tryd.prog Rows.valuePlainRow.laid W) : TabOk W := by
  have h2 := h.filter (fun x => x.1 == "internal/strconv.uint64pow10")
  rw [MakeChecks.laidMetH_plain _ _ _ (by kernel_rfl)] at h2
  exact Lib.tabIs_of_head (rest := []) gTab gTabType Tryd.underlying132 Tryd.underlying110 cellsU64 cellsTab h2
theorem cellsInt : Tryd.prog.cellsOf 3 = 1 := by kernel_rfl

set_option maxRecDepth 100000 in
theorem contract (H : Type) (enc : TypeId × Value → H) (W : World) (base : Nat) (args : Array Value) (ds gs : List (DataW H)) (before : List MemPlace)
    (hval : ∀ (j : Nat) t v, Tryd.f4.params[j]? = some t → args[j]? = some v → Value.okWide Tryd.prog W .any base t v)
    (hW : DataW.Whole enc Tryd.prog Tryd.f4.params.toList Rows.valuePlainSpec.vars false W args.toList ds gs before) (hR : (DataW.weightsEach Tryd.prog (Tryd.f4.params.toList ++ Rows.valuePlainSpec.plain.varTypes Tryd.prog) (ds ++ gs)).all (· ≤ reachBytes) = true) (hL : laidMetH Tryd.prog Rows.valuePlainRow.laid W) :
    Calls Tryd.prog 4 args W fun e W' => ∃ v, e = .returned v ∧ Rows.valuePlainSpec.post enc Tryd.prog Tryd.f4 false true false false W args v W' := by
  have hW' := hW
  obtain ⟨p, q, hA0, hV, rfl, hfz, hnd⟩ := hW
  have hA : DataW.TrodAll enc Tryd.prog W 0 (fun _ => true) true Tryd.f4.params.toList args.toList ds p := hA0
  have hfit : ∀ (j : Nat) t d, Tryd.f4.params.toList[j]? = some t → ds[j]? = some d → Fits Tryd.prog t d := fun j t d h1 h2 => fits_each (fun m hm => of_decide_eq_true (List.all_eq_true.1 hR m hm)) j t d (by rw [List.getElem?_append_left (List.getElem?_eq_some_iff.1 h1).1]; exact h1) (by rw [List.getElem?_append_left (List.getElem?_eq_some_iff.1 h2).1]; exact h2)
  rw [Tryd.params4] at hfit
  rw [Tryd.params4] at hA hval
  obtain ⟨v0, vs0, d0, ds0, p0, q0, hargs, rfl, rfl, h0, r0⟩ := trodAll_cons hA
  obtain ⟨v1, vs1, d1, ds1, p1, q1, rfl, rfl, rfl, h1, r1⟩ := trodAll_cons r0
  obtain ⟨v2, vs2, d2, ds2, p2, q2, rfl, rfl, rfl, h2, r2⟩ := trodAll_cons r1
  obtain ⟨rfl, rfl, rfl⟩ := trodAll_nil r2
  obtain rfl : args = #[v0, v1, v2] := by cases args; simp_all
  obtain ⟨g0, A0_0, c0_0, A0_1, c0_1, A0_2, c0_2, rfl, hg0⟩ := Dt.open_sig (hval 0 26 v0 rfl rfl) h0 (hfit 0 26 d0 rfl rfl)
  obtain ⟨a1, rfl, rfl, rfl, wa1⟩ := Go.ChangeShapes.open_int Tryd.underlying3 (hval 1 3 v1 rfl rfl) h1
  obtain ⟨A2, cap2, zs2, rfl, hc2, hz2, hl2, hm2⟩ := open_ints_all Tryd.underlying27 Tryd.underlying3 cellsInt (hval 2 27 v2 rfl rfl) h2
  unfold maxLen at hm2
  refine (Vl.valuePlain_all (w := W) hg0 a1 zs2 A2 cap2 (bounds_i64 wa1) hc2 hz2 hl2 hm2 (tabOk hL)).mono fun e W' ⟨he, hb⟩ => ⟨_, he, ?_⟩
  exact law_post laidOut (by kernel_rfl) rfl Tryd.underlying4 rfl rfl hW' hb

noncomputable def laidWorld (os : Os) : World := World.doorLaid Tryd.prog 24 os
theorem laid_met (os : Os) : laidMetH Tryd.prog Rows.valuePlainRow.laid ((laidWorld os).forCall (fun _ _ => 0) ⟨#[], #[.agg #[.slice none 0 0, .slice none 0 0, .slice none 0 0], .int .i64 0, .slice none 0 0], []⟩).memory :=
  laidMetH_of_parts3 (fuel := 8) (laidMet_of_run' 8 (by kernel_rfl) (by kernel_rfl)) (by kernel_rfl) (by kernel_rfl)
theorem reads (os : Os) {H : Type} (enc : TypeId × Value → H) : ∃ x, DataW.whole enc Tryd.prog ((laidWorld os).forCall (fun _ _ => 0) ⟨#[], #[.agg #[.slice none 0 0, .slice none 0 0, .slice none 0 0], .int .i64 0, .slice none 0 0], []⟩).memory Tryd.f4.params.toList Rows.valuePlainSpec.vars false #[Value.agg #[.slice none 0 0, .slice none 0 0, .slice none 0 0], .int .i64 0, .slice none 0 0].toList 8 = some ([.agg [.nil, .nil, .nil], .lit (.int .i64 0), .nil], [], x) :=
  ⟨[], by kernel_rfl⟩

set_option maxRecDepth 100000 in
theorem lifted (os : Os) (started : os.Started) (H : Type) (enc : TypeId × Value → H) (F : Stop.Interp) :
    ReturnsInHanded {} Tryd.checked os 4 .any ((OpenSpec.ofChange Rows.valuePlainSpec).preRow enc Tryd.prog Tryd.f4 Rows.valuePlainRow.domain false Rows.valuePlainRow.laid) (((OpenSpec.ofChange Rows.valuePlainSpec).at F).post enc Tryd.prog Tryd.f4 false true false false) := by
  obtain ⟨places, hx⟩ := reads os enc
  refine returnsInHanded_of_row (C := Tryd.checked) (s := OpenSpec.ofChange Rows.valuePlainSpec) own started (by kernel_rfl) Tryd.func4
    (witness_row_at (enc := enc) (C := Tryd.checked) false (laidWorld os) #[.agg #[.slice none 0 0, .slice none 0 0, .slice none 0 0], .int .i64 0, .slice none 0 0] rfl (by kernel_rfl) (by kernel_rfl) (by kernel_rfl)
      (OpenSpec.preRow_of_cond 8 hx (by kernel_rfl) (fun k hk => by cases hk) (by kernel_rfl) (laid_met os))) ?_
  intro W base args ds gs before hval hW _ _ hR hL _ _
  exact contract H enc W base args ds gs before hval hW hR hL

theorem said : Rows.ValuePlainSaid :=
  OpenClaim.holds_of_cond 4 Tryd.f4 rfl rfl rfl rfl rfl rfl rfl ⟨rfl, rfl, rfl, rfl, rfl⟩ rfl rfl rfl rfl rfl (by kernel_rfl) Tryd.func4 (by kernel_rfl)
    (of_decide_eq_true (by kernel_rfl)) (by unfold Func.isWrapper; first | (rw [if_pos (by decide +kernel)]; kernel_rfl) | (rw [if_neg (by decide +kernel)]; exact ⟨rfl, rfl⟩))
    (fun os started H enc _ F => by rw [OpenClaim.pre_eq_preRow]; exact lifted os started H enc F)

theorem plain (f : FuncId) (fn : Func) (hf : Tryd.pinned.checked.prog.funcNamed "gantry/gantrylaw09.ValuePlain" = some f) (hfn : Tryd.pinned.checked.prog.funcs[f]? = some fn) :
    false = Tryd.pinned.checked.prog.looks [] ∧ ∀ (j : Nat) t, fn.params[j]? = some t → Tryd.pinned.checked.prog.wantsStandIn t = false := by
  obtain rfl : f = 4 := Option.some.inj ((show Tryd.prog.funcNamed "gantry/gantrylaw09.ValuePlain" = some 4 by kernel_rfl).symm.trans hf) |>.symm
  obtain rfl : fn = Tryd.f4 := (Option.some.inj (Tryd.func4.symm.trans hfn)).symm
  refine ⟨by kernel_rfl, fun j t ht => ?_⟩
  have hm := Array.mem_of_getElem? ht
  have hall : (Tryd.f4.params.toList.all fun u => !Tryd.prog.wantsStandIn u) = true := by kernel_rfl
  exact (show Tryd.prog.wantsStandIn t = false by simpa using List.all_eq_true.1 hall t (by simpa using hm))

/-- the card -/
theorem card : Rows.ValuePlainCardSaid :=
  Claim7.holds_tied_plain_at .later [] _ _ _ _ said (fun _ h => by cases h) (by kernel_rfl) (fun _ h => by cases h) valuePlain_row_tie rfl ⟨rfl, rfl⟩ (by kernel_rfl) rfl plain (by kernel_rfl)
end Go.Proofs.YtfcmpfaonpnbaaaDoor.valuePlain
